/- the reference of rational: Normal, Check, Neg, Add, Mul, Sub, Compare; the reference of rational: Sign, Sub, Quo, Floor, Ceil, simplest, Simplest; the reference of rational: simplest, Simplest; the reference of rotation: over, back, then, upper, compare, Check; the reference of rotation: None, Then, Compare, Of, Middle; the reference of slices: less, Check, Long, Great, find, Find; the reference of slices: find, Find; the law SlicesFinds; the reference of slices: List; the law SlicesLists; Arguments of a law, as abstract values: rotations and lists of rotations. Conditions: none. -/
import Derived.Test.YthhmkaikopdmjaaGreatMf
import Derived.WalkKit
import Derived.ProofKit
import Derived.OpenShut
import Derived.Deep.Slices
import Derived.Carry
set_option linter.unusedSimpArgs false
set_option linter.unusedVariables false
set_option maxRecDepth 8000
namespace Go.Proofs.YthhmkaikopdmjaaGreat
open Go Go.Fw
theorem small_or (g : Bool) (n d : List UInt8) : (n.length ≤ 3 ∧ d.length ≤ 3 ∧ ∀ H, Sim Tryz.prog 168 #[qV g n d] H (.tuple #[.int .i64 (ival g n), .int .i64 (dval d : Nat), .bool true]) H) ∨
    (∀ H, Sim Tryz.prog 168 #[qV g n d] H (.tuple #[.int .i64 0, .int .i64 0, .bool false]) H) := by
  by_cases h : 3 < n.length ∨ 3 < d.length
  · exact .inr fun H => small_big H h
  · exact .inl ⟨by omega, by omega, fun H => small_small H (by omega) (by omega)⟩
theorem dval_lt {d : List UInt8} {k : Nat} (h : 8 * d.length ≤ k) : ((dval d : Nat) : Int).natAbs < 2 ^ (k + 1) := by
  have := valB_lt2 d h
  have h1 := Nat.one_le_two_pow (n := k)
  rw [Nat.pow_succ, Int.natAbs_natCast]
  unfold dval
  split <;> omega
theorem ival_lt (g : Bool) {n : List UInt8} {k : Nat} (h : 8 * n.length ≤ k) : (ival g n).natAbs < 2 ^ (k + 1) := by
  rw [ival_abs, Nat.pow_succ]
  have := valB_lt2 n h
  omega
theorem normalR (H : Heap) {v : Value} {q : Rat} {k : Nat} (hv : QV v q k) (hk : k ≤ 4000000) : Sim Tryz.prog 173 #[v] H (mkQ q) H := by
  refine flat_ex rfl ?_
  obtain ⟨g, n, d, rfl, rfl, h1, h2⟩ := hv
  have d0 := dval_pos d
  have pA := fun H => partsR H (g := g) (n := n) (d := d) (by omega) (by omega)
  have r1 := fun H => reduceR H (IA.mk (ival_lt g h1)) (IA.mk (dval_lt h2)) (by omega) (by omega)
  rw [divInt_pos (by omega), Int.natAbs_natCast] at r1
  have hq : qval g n d = mkRat (ival g n) (dval d) := rfl
  rw [← hq] at r1
  rcases small_or g n d with ⟨x1, x2, oA⟩ | oA
  · have b1 := ival3 g x1
    have b2 := dval3 x2
    have oP := fun H => packR H (n := ival g n) (d := dval d) (by omega) (by omega) d0
    rw [← hq] at oP
    generalize qval g n d = Q at *
    generalize ival g n = P at *
    generalize dval d = D at *
    unfold qV at oA pA ⊢
    refine sim_ex tok mixed Tryz.func173 rfl (by kernel_rfl) (by kernel_rfl) (by simp only [Tryz.ntmps173, List.size_toArray, List.length_cons, List.length_nil]; omega) ?_
    simp -implicitDefEqProofs only [go_sem, simprocAttr, mkI, iV, mkQ, qV, fV, ofV, rV, mkR]
    refine wl_callV _ (by simp -implicitDefEqProofs only [go_sem, simprocAttr, mkI, iV, mkQ, qV, fV, ofV, rV, mkR, axC_t, axC_f, wa_cond]) (oA _) ?_
    simp -implicitDefEqProofs only [go_sem, simprocAttr, mkI, iV, mkQ, qV, fV, ofV, rV, mkR, axC_t, axC_f, wa_cond]
    refine wl_callV _ (by simp -implicitDefEqProofs only [go_sem, simprocAttr, mkI, iV, mkQ, qV, fV, ofV, rV, mkR]) (oP _) ?_
    simp -implicitDefEqProofs only [go_sem, simprocAttr, mkI, iV, mkQ, qV, fV, ofV, rV, mkR]
    simp -implicitDefEqProofs only [go_sem, simprocAttr, mkI, iV, mkQ, qV, fV, ofV, rV, mkR, res173]
    first | exact .app _ _ | exact ⟨.app _ _, rfl⟩ | exact .refl _ | exact ⟨.refl _, rfl⟩
  · generalize qval g n d = Q at *
    generalize ival g n = P at *
    generalize dval d = D at *
    unfold qV at oA pA ⊢
    refine sim_ex tok mixed Tryz.func173 rfl (by kernel_rfl) (by kernel_rfl) (by simp only [Tryz.ntmps173, List.size_toArray, List.length_cons, List.length_nil]; omega) ?_
    simp -implicitDefEqProofs only [go_sem, simprocAttr, mkI, iV, mkQ, qV, fV, ofV, rV, mkR]
    refine wl_callV _ (by simp -implicitDefEqProofs only [go_sem, simprocAttr, mkI, iV, mkQ, qV, fV, ofV, rV, mkR, axC_t, axC_f, wa_cond]) (oA _) ?_
    simp -implicitDefEqProofs only [go_sem, simprocAttr, mkI, iV, mkQ, qV, fV, ofV, rV, mkR, axC_t, axC_f, wa_cond]
    refine wl_callV _ (by simp -implicitDefEqProofs only [go_sem, simprocAttr, mkI, iV, mkQ, qV, fV, ofV, rV, mkR]) (pA _) ?_
    simp -implicitDefEqProofs only [go_sem, simprocAttr, mkI, iV, mkQ, qV, fV, ofV, rV, mkR]
    refine wl_callV _ (by simp -implicitDefEqProofs only [go_sem, simprocAttr, mkI, iV, mkQ, qV, fV, ofV, rV, mkR]) (r1 _) ?_
    simp -implicitDefEqProofs only [go_sem, simprocAttr, mkI, iV, mkQ, qV, fV, ofV, rV, mkR]
    simp -implicitDefEqProofs only [go_sem, simprocAttr, mkI, iV, mkQ, qV, fV, ofV, rV, mkR, res173]
    first | exact .app _ _ | exact ⟨.app _ _, rfl⟩ | exact .refl _ | exact ⟨.refl _, rfl⟩
theorem qcheckR (H : Heap) {g : Bool} {n d : List UInt8} (hn : n.length ≤ 400000) (hd : d.length ≤ 400000) : Sim Tryz.prog 110 #[qV g n d] H (.int .i64 (if isCan g n d = true then 0 else 1)) H := by
  refine flat_ex rfl ?_
  have o1 := fun H => normalR H (QV.raw g n d (k := 3200000) (by omega) (by omega)) (by decide)
  have hq := neq24 (decide ((qval g n d).num < 0)) g (digB (qval g n d).num.natAbs) (denB (qval g n d).den) n d
  have e2 : decide (¬ (decide ((qval g n d).num < 0) = g ∧ digB (qval g n d).num.natAbs = n ∧ denB (qval g n d).den = d)) = !(isCan g n d) := by
    unfold isCan
    rw [← decide_not]
    refine decide_eq_decide.2 (not_congr ?_)
    constructor <;> rintro ⟨a, b, c⟩ <;> exact ⟨a.symm, b.symm, c.symm⟩
  rw [e2] at hq
  cases h0 : isCan g n d
  · rw [h0] at hq
    generalize qval g n d = q at *
    unfold qV mkQ at *
    refine sim_ex tok mixed Tryz.func110 rfl (by kernel_rfl) (by kernel_rfl) (by simp only [Tryz.ntmps110, List.size_toArray, List.length_cons, List.length_nil]; omega) ?_
    simp -implicitDefEqProofs only [go_sem, simprocAttr, mkI, iV, mkQ, qV, fV, ofV, rV, mkR]
    refine ax_quiet (by kernel_rfl) ?_
    simp -implicitDefEqProofs only [go_sem, simprocAttr, mkI, iV, mkQ, qV, fV, ofV, rV, mkR]
    refine wl_callV _ (by simp -implicitDefEqProofs only [go_sem, simprocAttr, mkI, iV, mkQ, qV, fV, ofV, rV, mkR, hq]) (o1 _) ?_
    simp -implicitDefEqProofs only [go_sem, simprocAttr, mkI, iV, mkQ, qV, fV, ofV, rV, mkR, hq]
    simp -implicitDefEqProofs only [go_sem, simprocAttr, mkI, iV, mkQ, qV, fV, ofV, rV, mkR, wa_cond, axC_t, axC_f]
    simp -implicitDefEqProofs only [go_sem, simprocAttr, mkI, iV, mkQ, qV, fV, ofV, rV, mkR, res110]
    first | exact .app _ _ | exact ⟨.app _ _, rfl⟩ | exact .refl _ | exact ⟨.refl _, rfl⟩
  · rw [h0] at hq
    generalize qval g n d = q at *
    unfold qV mkQ at *
    refine sim_ex tok mixed Tryz.func110 rfl (by kernel_rfl) (by kernel_rfl) (by simp only [Tryz.ntmps110, List.size_toArray, List.length_cons, List.length_nil]; omega) ?_
    simp -implicitDefEqProofs only [go_sem, simprocAttr, mkI, iV, mkQ, qV, fV, ofV, rV, mkR]
    refine ax_quiet (by kernel_rfl) ?_
    simp -implicitDefEqProofs only [go_sem, simprocAttr, mkI, iV, mkQ, qV, fV, ofV, rV, mkR]
    refine wl_callV _ (by simp -implicitDefEqProofs only [go_sem, simprocAttr, mkI, iV, mkQ, qV, fV, ofV, rV, mkR, hq]) (o1 _) ?_
    simp -implicitDefEqProofs only [go_sem, simprocAttr, mkI, iV, mkQ, qV, fV, ofV, rV, mkR, hq]
    simp -implicitDefEqProofs only [go_sem, simprocAttr, mkI, iV, mkQ, qV, fV, ofV, rV, mkR, wa_cond, axC_t, axC_f]
    simp -implicitDefEqProofs only [go_sem, simprocAttr, mkI, iV, mkQ, qV, fV, ofV, rV, mkR, res110]
    first | exact .app _ _ | exact ⟨.app _ _, rfl⟩ | exact .refl _ | exact ⟨.refl _, rfl⟩
theorem negRQ (H : Heap) {v : Value} {q : Rat} {k : Nat} (hv : QV v q k) (hk : k ≤ 4000000) : Sim Tryz.prog 188 #[v] H (mkQ (-q)) H := by
  refine flat_ex rfl ?_
  obtain ⟨g, n, d, rfl, rfl, h1, h2⟩ := hv
  have o1 := fun H => normalR H (QV.raw (!g) n d h1 h2) hk
  rw [qval_not] at o1
  generalize -qval g n d = Q at *
  unfold qV at *
  refine sim_ex tok mixed Tryz.func188 rfl (by kernel_rfl) (by kernel_rfl) (by simp only [Tryz.ntmps188, List.size_toArray, List.length_cons, List.length_nil]; omega) ?_
  simp -implicitDefEqProofs only [go_sem, simprocAttr, mkI, iV, mkQ, qV, fV, ofV, rV, mkR]
  refine wl_callV _ (by simp -implicitDefEqProofs only [go_sem, simprocAttr, mkI, iV, mkQ, qV, fV, ofV, rV, mkR]) (o1 _) ?_
  simp -implicitDefEqProofs only [go_sem, simprocAttr, mkI, iV, mkQ, qV, fV, ofV, rV, mkR]
  simp -implicitDefEqProofs only [go_sem, simprocAttr, mkI, iV, mkQ, qV, fV, ofV, rV, mkR, res188]
  first | exact .app _ _ | exact ⟨.app _ _, rfl⟩ | exact .refl _ | exact ⟨.refl _, rfl⟩
theorem addRQ (H : Heap) {v w : Value} {a b : Rat} {k k' : Nat} (hv : QV v a k) (hw : QV w b k') (hk : k ≤ 600000) (hk' : k' ≤ 600000) : Sim Tryz.prog 106 #[v, w] H (mkQ (a + b)) H := by
  refine flat_ex rfl ?_
  obtain ⟨K, hK⟩ : ∃ K, K = 600000 := ⟨_, rfl⟩
  obtain ⟨g, n, d, rfl, rfl, h1, h2⟩ := QV.mono hv (k' := K) (by omega)
  obtain ⟨g', n', d', rfl, rfl, h3, h4⟩ := QV.mono hw (k' := K) (by omega)
  have d0 := dval_pos d
  have d0' := dval_pos d'
  have pA := fun H => partsR H (g := g) (n := n) (d := d) (by omega) (by omega)
  have pB := fun H => partsR H (g := g') (n := n') (d := d') (by omega) (by omega)
  have zP := ival_lt g h1
  have zD := dval_lt h2
  have zP' := ival_lt g' h3
  have zD' := dval_lt h4
  have law : qval g n d + qval g' n' d' = mkRat (ival g n * (dval d' : Nat) + ival g' n' * (dval d : Nat)) (dval d * dval d') := mkRat_add' _ _ d0 d0'
  rw [law]
  have sA := small_or g n d
  have sB := small_or g' n' d'
  have b1 := fun x1 => ival3 g (n := n) x1
  have b2 := fun x1 => dval3 (n := d) x1
  have b3 := fun x1 => ival3 g' (n := n') x1
  have b4 := fun x1 => dval3 (n := d') x1
  clear law
  generalize ival g n = P at *
  generalize dval d = D at *
  generalize ival g' n' = P' at *
  generalize dval d' = D' at *
  unfold qV at *
  have e1 := absmul zP zD'
  have e2 := absmul zP' zD
  have e3 := absadd e1 e2
  have e4 := absmul zD zD'
  have m1 := fun H => rMul H (IA.mk zP) (IA.mk zD') (by omega) (by omega)
  have m2 := fun H => rMul H (IA.mk zP') (IA.mk zD) (by omega) (by omega)
  have m3 := fun H => rAdd H (IA.mk e1) (IA.mk e2) (by omega) (by omega)
  have m4 := fun H => rMul H (IA.mk zD) (IA.mk zD') (by omega) (by omega)
  have h0 : (D : Int) * (D' : Int) ≠ 0 := by have := Nat.mul_pos d0 d0'; rw [mulc]; omega
  have r1 := fun H => reduceR H (IA.mk e3) ((IA.mk e4).mono (k' := K + 1 + (K + 1) + 1 + 7) (by omega)) (by omega) h0
  rw [divInt_pos (by have := Nat.mul_pos d0 d0'; rw [mulc]; omega), mulc, Int.natAbs_natCast] at r1
  rw [mulc] at m4
  clear e1 e2 e3 e4 zP zP' zD zD' 
  refine sim_ex tok mixed Tryz.func106 rfl (by kernel_rfl) (by kernel_rfl) (by simp only [Tryz.ntmps106, List.size_toArray, List.length_cons, List.length_nil]; omega) ?_
  simp -implicitDefEqProofs only [go_sem, simprocAttr, mkI, iV, mkQ, qV, fV, ofV, rV, mkR]
  apply shareK (M := fun s T => s 2 = .pointer (some ⟨H.length, 0, none⟩) ∧ s 3 = .pointer (some ⟨H.length + 1, 0, none⟩) ∧ s 4 = .pointer (some ⟨H.length + 2, 0, none⟩) ∧ T = H ++ [⟨[.bool g, .string (bs n), .string (bs d)], 1, true⟩, ⟨[.bool g', .string (bs n'), .string (bs d')], 1, true⟩, ⟨[.bool false, .string (bs []), .string (bs [])], 1, true⟩])
  · intro hrest
    rcases sA with ⟨x1, x2, oA⟩ | oA
    · rcases sB with ⟨x3, x4, oB⟩ | oB
      · have b1 := b1 x1
        have b2 := b2 x2
        have b3 := b3 x3
        have b4 := b4 x4
        have p1 := prod3 (x := P) (y := (D' : Int)) b1 (by omega)
        have p2 := prod3 (x := P') (y := (D : Int)) b3 (by omega)
        have p3 : D * D' ≤ 16777216 * 16777216 := Nat.mul_le_mul b2 b4
        have w1 : IntKind.i64.wrap (P * (D' : Int)) = P * (D' : Int) := w64 (by omega) (by omega)
        have w2 : IntKind.i64.wrap (P' * (D : Int)) = P' * (D : Int) := w64 (by omega) (by omega)
        have w3 : IntKind.i64.wrap (P * (D' : Int) + P' * (D : Int)) = P * (D' : Int) + P' * (D : Int) := w64 (by omega) (by omega)
        have w4 : IntKind.i64.wrap ((D : Int) * (D' : Int)) = ((D * D' : Nat) : Int) := by rw [mulc, w64n (by omega)]
        have oP := fun H => packR H (n := P * (D' : Int) + P' * (D : Int)) (d := D * D') (by omega) (by omega) (Nat.mul_pos d0 d0')
        refine wl_callV _ (by simp -implicitDefEqProofs only [go_sem, simprocAttr, mkI, iV, mkQ, qV, fV, ofV, rV, mkR]) (oA _) ?_
        simp -implicitDefEqProofs only [go_sem, simprocAttr, mkI, iV, mkQ, qV, fV, ofV, rV, mkR]
        refine wl_callV _ (by simp -implicitDefEqProofs only [go_sem, simprocAttr, mkI, iV, mkQ, qV, fV, ofV, rV, mkR, wa_cond, axC_t, axC_f, w1, w2, w3, w4]) (oB _) ?_
        simp -implicitDefEqProofs only [go_sem, simprocAttr, mkI, iV, mkQ, qV, fV, ofV, rV, mkR, wa_cond, axC_t, axC_f, w1, w2, w3, w4]
        refine wl_callV _ (by simp -implicitDefEqProofs only [go_sem, simprocAttr, mkI, iV, mkQ, qV, fV, ofV, rV, mkR]) (oP _) ?_
        simp -implicitDefEqProofs only [go_sem, simprocAttr, mkI, iV, mkQ, qV, fV, ofV, rV, mkR]
        simp -implicitDefEqProofs only [go_sem, simprocAttr, mkI, iV, mkQ, qV, fV, ofV, rV, mkR, res106]
        first | exact .app _ _ | exact ⟨.app _ _, rfl⟩ | exact .refl _ | exact ⟨.refl _, rfl⟩
      · refine wl_callV _ (by simp -implicitDefEqProofs only [go_sem, simprocAttr, mkI, iV, mkQ, qV, fV, ofV, rV, mkR]) (oA _) ?_
        simp -implicitDefEqProofs only [go_sem, simprocAttr, mkI, iV, mkQ, qV, fV, ofV, rV, mkR]
        refine wl_callV _ (by simp -implicitDefEqProofs only [go_sem, simprocAttr, mkI, iV, mkQ, qV, fV, ofV, rV, mkR]) (oB _) ?_
        simp -implicitDefEqProofs only [go_sem, simprocAttr, mkI, iV, mkQ, qV, fV, ofV, rV, mkR]
        refine ax_mid _ ?_ hrest
        simp -implicitDefEqProofs only [go_sem, simprocAttr, mkI, iV, mkQ, qV, fV, ofV, rV, mkR, wa_cond, axC_t, axC_f]
    · obtain ⟨y1, y2, y3, oB⟩ : ∃ y1 y2 y3, ∀ H, Sim Tryz.prog 168 #[.agg #[.bool g', .string (bs n'), .string (bs d')]] H (.tuple #[.int .i64 y1, .int .i64 y2, .bool y3]) H := by
        rcases sB with ⟨_, _, oB⟩ | oB
        · exact ⟨_, _, _, oB⟩
        · exact ⟨_, _, _, oB⟩
      refine wl_callV _ (by simp -implicitDefEqProofs only [go_sem, simprocAttr, mkI, iV, mkQ, qV, fV, ofV, rV, mkR]) (oA _) ?_
      simp -implicitDefEqProofs only [go_sem, simprocAttr, mkI, iV, mkQ, qV, fV, ofV, rV, mkR]
      refine wl_callV _ (by simp -implicitDefEqProofs only [go_sem, simprocAttr, mkI, iV, mkQ, qV, fV, ofV, rV, mkR]) (oB _) ?_
      simp -implicitDefEqProofs only [go_sem, simprocAttr, mkI, iV, mkQ, qV, fV, ofV, rV, mkR]
      refine ax_mid _ ?_ hrest
      simp -implicitDefEqProofs only [go_sem, simprocAttr, mkI, iV, mkQ, qV, fV, ofV, rV, mkR, wa_cond, axC_t, axC_f]
  rintro s T ⟨s2, s3, s4, rfl⟩
  simp -implicitDefEqProofs only [go_sem, simprocAttr, mkI, iV, mkQ, qV, fV, ofV, rV, mkR, s2, s3]
  refine wl_callV _ (by simp -implicitDefEqProofs only [go_sem, simprocAttr, mkI, iV, mkQ, qV, fV, ofV, rV, mkR, s2, s3]) (pA _) ?_
  simp -implicitDefEqProofs only [go_sem, simprocAttr, mkI, iV, mkQ, qV, fV, ofV, rV, mkR, s2, s3]
  refine wl_callV _ (by simp -implicitDefEqProofs only [go_sem, simprocAttr, mkI, iV, mkQ, qV, fV, ofV, rV, mkR, s2, s3]) (pB _) ?_
  simp -implicitDefEqProofs only [go_sem, simprocAttr, mkI, iV, mkQ, qV, fV, ofV, rV, mkR, s2, s3]
  refine ax_quiet (by kernel_rfl) ?_
  simp -implicitDefEqProofs only [go_sem, simprocAttr, mkI, iV, mkQ, qV, fV, ofV, rV, mkR]
  refine wl_callV _ (by simp -implicitDefEqProofs only [go_sem, simprocAttr, mkI, iV, mkQ, qV, fV, ofV, rV, mkR]) (m1 _) ?_
  simp -implicitDefEqProofs only [go_sem, simprocAttr, mkI, iV, mkQ, qV, fV, ofV, rV, mkR]
  refine wl_callV _ (by simp -implicitDefEqProofs only [go_sem, simprocAttr, mkI, iV, mkQ, qV, fV, ofV, rV, mkR]) (m2 _) ?_
  simp -implicitDefEqProofs only [go_sem, simprocAttr, mkI, iV, mkQ, qV, fV, ofV, rV, mkR]
  refine wl_callV _ (by simp -implicitDefEqProofs only [go_sem, simprocAttr, mkI, iV, mkQ, qV, fV, ofV, rV, mkR]) (m3 _) ?_
  simp -implicitDefEqProofs only [go_sem, simprocAttr, mkI, iV, mkQ, qV, fV, ofV, rV, mkR]
  refine wl_callV _ (by simp -implicitDefEqProofs only [go_sem, simprocAttr, mkI, iV, mkQ, qV, fV, ofV, rV, mkR]) (m4 _) ?_
  simp -implicitDefEqProofs only [go_sem, simprocAttr, mkI, iV, mkQ, qV, fV, ofV, rV, mkR]
  refine wl_callV _ (by simp -implicitDefEqProofs only [go_sem, simprocAttr, mkI, iV, mkQ, qV, fV, ofV, rV, mkR, s4]) (r1 _) ?_
  simp -implicitDefEqProofs only [go_sem, simprocAttr, mkI, iV, mkQ, qV, fV, ofV, rV, mkR, s4]
  simp -implicitDefEqProofs only [go_sem, simprocAttr, mkI, iV, mkQ, qV, fV, ofV, rV, mkR, res106, s4]
  first | exact .app _ _ | exact ⟨.app _ _, rfl⟩ | exact .refl _ | exact ⟨.refl _, rfl⟩
theorem mulRQ (H : Heap) {v w : Value} {a b : Rat} {k k' : Nat} (hv : QV v a k) (hw : QV w b k') (hk : k ≤ 600000) (hk' : k' ≤ 600000) : Sim Tryz.prog 105 #[v, w] H (mkQ (a * b)) H := by
  refine flat_ex rfl ?_
  obtain ⟨K, hK⟩ : ∃ K, K = 600000 := ⟨_, rfl⟩
  obtain ⟨g, n, d, rfl, rfl, h1, h2⟩ := QV.mono hv (k' := K) (by omega)
  obtain ⟨g', n', d', rfl, rfl, h3, h4⟩ := QV.mono hw (k' := K) (by omega)
  have d0 := dval_pos d
  have d0' := dval_pos d'
  have pA := fun H => partsR H (g := g) (n := n) (d := d) (by omega) (by omega)
  have pB := fun H => partsR H (g := g') (n := n') (d := d') (by omega) (by omega)
  have zP := ival_lt g h1
  have zD := dval_lt h2
  have zP' := ival_lt g' h3
  have zD' := dval_lt h4
  have law : qval g n d * qval g' n' d' = mkRat (ival g n * ival g' n') (dval d * dval d') := Rat.mkRat_mul_mkRat _ _ _ _
  rw [law]
  have sA := small_or g n d
  have sB := small_or g' n' d'
  have b1 := fun x1 => ival3 g (n := n) x1
  have b2 := fun x1 => dval3 (n := d) x1
  have b3 := fun x1 => ival3 g' (n := n') x1
  have b4 := fun x1 => dval3 (n := d') x1
  clear law
  generalize ival g n = P at *
  generalize dval d = D at *
  generalize ival g' n' = P' at *
  generalize dval d' = D' at *
  unfold qV at *
  have e1 := absmul zP zP'
  have e4 := absmul zD zD'
  have m1 := fun H => rMul H (IA.mk zP) (IA.mk zP') (by omega) (by omega)
  have m4 := fun H => rMul H (IA.mk zD) (IA.mk zD') (by omega) (by omega)
  have h0 : (D : Int) * (D' : Int) ≠ 0 := by have := Nat.mul_pos d0 d0'; rw [mulc]; omega
  have r1 := fun H => reduceR H (IA.mk e1) (IA.mk e4) (by omega) h0
  rw [divInt_pos (by have := Nat.mul_pos d0 d0'; rw [mulc]; omega), mulc, Int.natAbs_natCast] at r1
  rw [mulc] at m4
  clear e1 e4 zP zP' zD zD' 
  refine sim_ex tok mixed Tryz.func105 rfl (by kernel_rfl) (by kernel_rfl) (by simp only [Tryz.ntmps105, List.size_toArray, List.length_cons, List.length_nil]; omega) ?_
  simp -implicitDefEqProofs only [go_sem, simprocAttr, mkI, iV, mkQ, qV, fV, ofV, rV, mkR]
  apply shareK (M := fun s T => s 2 = .pointer (some ⟨H.length, 0, none⟩) ∧ s 3 = .pointer (some ⟨H.length + 1, 0, none⟩) ∧ s 4 = .pointer (some ⟨H.length + 2, 0, none⟩) ∧ T = H ++ [⟨[.bool g, .string (bs n), .string (bs d)], 1, true⟩, ⟨[.bool g', .string (bs n'), .string (bs d')], 1, true⟩, ⟨[.bool false, .string (bs []), .string (bs [])], 1, true⟩])
  · intro hrest
    rcases sA with ⟨x1, x2, oA⟩ | oA
    · rcases sB with ⟨x3, x4, oB⟩ | oB
      · have b1 := b1 x1
        have b2 := b2 x2
        have b3 := b3 x3
        have b4 := b4 x4
        have p1 := prod3 (x := P) (y := P') b1 b3
        have p3 : D * D' ≤ 16777216 * 16777216 := Nat.mul_le_mul b2 b4
        have w1 : IntKind.i64.wrap (P * P') = P * P' := w64 (by omega) (by omega)
        have w4 : IntKind.i64.wrap ((D : Int) * (D' : Int)) = ((D * D' : Nat) : Int) := by rw [mulc, w64n (by omega)]
        have oP := fun H => packR H (n := P * P') (d := D * D') (by omega) (by omega) (Nat.mul_pos d0 d0')
        refine wl_callV _ (by simp -implicitDefEqProofs only [go_sem, simprocAttr, mkI, iV, mkQ, qV, fV, ofV, rV, mkR]) (oA _) ?_
        simp -implicitDefEqProofs only [go_sem, simprocAttr, mkI, iV, mkQ, qV, fV, ofV, rV, mkR]
        refine wl_callV _ (by simp -implicitDefEqProofs only [go_sem, simprocAttr, mkI, iV, mkQ, qV, fV, ofV, rV, mkR, wa_cond, axC_t, axC_f, w1, w4]) (oB _) ?_
        simp -implicitDefEqProofs only [go_sem, simprocAttr, mkI, iV, mkQ, qV, fV, ofV, rV, mkR, wa_cond, axC_t, axC_f, w1, w4]
        refine wl_callV _ (by simp -implicitDefEqProofs only [go_sem, simprocAttr, mkI, iV, mkQ, qV, fV, ofV, rV, mkR]) (oP _) ?_
        simp -implicitDefEqProofs only [go_sem, simprocAttr, mkI, iV, mkQ, qV, fV, ofV, rV, mkR]
        simp -implicitDefEqProofs only [go_sem, simprocAttr, mkI, iV, mkQ, qV, fV, ofV, rV, mkR, res105]
        first | exact .app _ _ | exact ⟨.app _ _, rfl⟩ | exact .refl _ | exact ⟨.refl _, rfl⟩
      · refine wl_callV _ (by simp -implicitDefEqProofs only [go_sem, simprocAttr, mkI, iV, mkQ, qV, fV, ofV, rV, mkR]) (oA _) ?_
        simp -implicitDefEqProofs only [go_sem, simprocAttr, mkI, iV, mkQ, qV, fV, ofV, rV, mkR]
        refine wl_callV _ (by simp -implicitDefEqProofs only [go_sem, simprocAttr, mkI, iV, mkQ, qV, fV, ofV, rV, mkR]) (oB _) ?_
        simp -implicitDefEqProofs only [go_sem, simprocAttr, mkI, iV, mkQ, qV, fV, ofV, rV, mkR]
        refine ax_mid _ ?_ hrest
        simp -implicitDefEqProofs only [go_sem, simprocAttr, mkI, iV, mkQ, qV, fV, ofV, rV, mkR, wa_cond, axC_t, axC_f]
    · obtain ⟨y1, y2, y3, oB⟩ : ∃ y1 y2 y3, ∀ H, Sim Tryz.prog 168 #[.agg #[.bool g', .string (bs n'), .string (bs d')]] H (.tuple #[.int .i64 y1, .int .i64 y2, .bool y3]) H := by
        rcases sB with ⟨_, _, oB⟩ | oB
        · exact ⟨_, _, _, oB⟩
        · exact ⟨_, _, _, oB⟩
      refine wl_callV _ (by simp -implicitDefEqProofs only [go_sem, simprocAttr, mkI, iV, mkQ, qV, fV, ofV, rV, mkR]) (oA _) ?_
      simp -implicitDefEqProofs only [go_sem, simprocAttr, mkI, iV, mkQ, qV, fV, ofV, rV, mkR]
      refine wl_callV _ (by simp -implicitDefEqProofs only [go_sem, simprocAttr, mkI, iV, mkQ, qV, fV, ofV, rV, mkR]) (oB _) ?_
      simp -implicitDefEqProofs only [go_sem, simprocAttr, mkI, iV, mkQ, qV, fV, ofV, rV, mkR]
      refine ax_mid _ ?_ hrest
      simp -implicitDefEqProofs only [go_sem, simprocAttr, mkI, iV, mkQ, qV, fV, ofV, rV, mkR, wa_cond, axC_t, axC_f]
  rintro s T ⟨s2, s3, s4, rfl⟩
  simp -implicitDefEqProofs only [go_sem, simprocAttr, mkI, iV, mkQ, qV, fV, ofV, rV, mkR, s2, s3]
  refine wl_callV _ (by simp -implicitDefEqProofs only [go_sem, simprocAttr, mkI, iV, mkQ, qV, fV, ofV, rV, mkR, s2, s3]) (pA _) ?_
  simp -implicitDefEqProofs only [go_sem, simprocAttr, mkI, iV, mkQ, qV, fV, ofV, rV, mkR, s2, s3]
  refine wl_callV _ (by simp -implicitDefEqProofs only [go_sem, simprocAttr, mkI, iV, mkQ, qV, fV, ofV, rV, mkR, s2, s3]) (pB _) ?_
  simp -implicitDefEqProofs only [go_sem, simprocAttr, mkI, iV, mkQ, qV, fV, ofV, rV, mkR, s2, s3]
  refine ax_quiet (by kernel_rfl) ?_
  simp -implicitDefEqProofs only [go_sem, simprocAttr, mkI, iV, mkQ, qV, fV, ofV, rV, mkR]
  refine wl_callV _ (by simp -implicitDefEqProofs only [go_sem, simprocAttr, mkI, iV, mkQ, qV, fV, ofV, rV, mkR]) (m1 _) ?_
  simp -implicitDefEqProofs only [go_sem, simprocAttr, mkI, iV, mkQ, qV, fV, ofV, rV, mkR]
  refine wl_callV _ (by simp -implicitDefEqProofs only [go_sem, simprocAttr, mkI, iV, mkQ, qV, fV, ofV, rV, mkR]) (m4 _) ?_
  simp -implicitDefEqProofs only [go_sem, simprocAttr, mkI, iV, mkQ, qV, fV, ofV, rV, mkR]
  refine wl_callV _ (by simp -implicitDefEqProofs only [go_sem, simprocAttr, mkI, iV, mkQ, qV, fV, ofV, rV, mkR, s4]) (r1 _) ?_
  simp -implicitDefEqProofs only [go_sem, simprocAttr, mkI, iV, mkQ, qV, fV, ofV, rV, mkR, s4]
  simp -implicitDefEqProofs only [go_sem, simprocAttr, mkI, iV, mkQ, qV, fV, ofV, rV, mkR, res105, s4]
  first | exact .app _ _ | exact ⟨.app _ _, rfl⟩ | exact .refl _ | exact ⟨.refl _, rfl⟩
theorem cmpRQ (H : Heap) {v w : Value} {a b : Rat} {k k' : Nat} (hv : QV v a k) (hw : QV w b k') (hk : k ≤ 600000) (hk' : k' ≤ 600000) : Sim Tryz.prog 111 #[v, w] H (.int .i64 (cmpQ a b)) H := by
  refine flat_ex rfl ?_
  obtain ⟨K, hK⟩ : ∃ K, K = 600000 := ⟨_, rfl⟩
  obtain ⟨g, n, d, rfl, rfl, h1, h2⟩ := QV.mono hv (k' := K) (by omega)
  obtain ⟨g', n', d', rfl, rfl, h3, h4⟩ := QV.mono hw (k' := K) (by omega)
  have d0 := dval_pos d
  have d0' := dval_pos d'
  have pA := fun H => partsR H (g := g) (n := n) (d := d) (by omega) (by omega)
  have pB := fun H => partsR H (g := g') (n := n') (d := d') (by omega) (by omega)
  have zP := ival_lt g h1
  have zD := dval_lt h2
  have zP' := ival_lt g' h3
  have zD' := dval_lt h4
  have law : cmpQ (qval g n d) (qval g' n' d') = sgn (ival g n * (dval d' : Nat) - ival g' n' * (dval d : Nat)) := cmpQ_eq d0 d0'
  rw [law]
  have sA := small_or g n d
  have sB := small_or g' n' d'
  have b1 := fun x1 => ival3 g (n := n) x1
  have b2 := fun x1 => dval3 (n := d) x1
  have b3 := fun x1 => ival3 g' (n := n') x1
  have b4 := fun x1 => dval3 (n := d') x1
  clear law
  generalize ival g n = P at *
  generalize dval d = D at *
  generalize ival g' n' = P' at *
  generalize dval d' = D' at *
  unfold qV at *
  have e1 := absmul zP zD'
  have e2 := absmul zP' zD
  have m1 := fun H => rMul H (IA.mk zP) (IA.mk zD') (by omega) (by omega)
  have m2 := fun H => rMul H (IA.mk zP') (IA.mk zD) (by omega) (by omega)
  have m3 := fun H => rCmp H (IA.mk e1) (IA.mk e2)
  clear e1 e2 zP zP' zD zD' 
  refine sim_ex tok mixed Tryz.func111 rfl (by kernel_rfl) (by kernel_rfl) (by simp only [Tryz.ntmps111, List.size_toArray, List.length_cons, List.length_nil]; omega) ?_
  simp -implicitDefEqProofs only [go_sem, simprocAttr, mkI, iV, mkQ, qV, fV, ofV, rV, mkR]
  apply shareK (M := fun s T => s 2 = .pointer (some ⟨H.length, 0, none⟩) ∧ s 3 = .pointer (some ⟨H.length + 1, 0, none⟩) ∧ T = H ++ [⟨[.bool g, .string (bs n), .string (bs d)], 1, true⟩, ⟨[.bool g', .string (bs n'), .string (bs d')], 1, true⟩])
  · intro hrest
    rcases sA with ⟨x1, x2, oA⟩ | oA
    · rcases sB with ⟨x3, x4, oB⟩ | oB
      · have b1 := b1 x1
        have b2 := b2 x2
        have b3 := b3 x3
        have b4 := b4 x4
        have p1 := prod3 (x := P) (y := (D' : Int)) b1 (by omega)
        have p2 := prod3 (x := P') (y := (D : Int)) b3 (by omega)
        clear m1 m2 m3 hrest
        obtain ⟨x, hx⟩ : ∃ x : Int, P * (D' : Int) = x := ⟨_, rfl⟩
        obtain ⟨y, hy⟩ : ∃ x : Int, P' * (D : Int) = x := ⟨_, rfl⟩
        rw [hx, hy]
        have w1 : IntKind.i64.wrap (P * (D' : Int)) = x := by rw [hx] at p1 ⊢; exact w64 (by omega) (by omega)
        have w2 : IntKind.i64.wrap (P' * (D : Int)) = y := by rw [hy] at p2 ⊢; exact w64 (by omega) (by omega)
        by_cases h1 : x < y
        · rw [sgn_neg (by omega)]
          refine wl_callV _ (by simp -implicitDefEqProofs only [go_sem, simprocAttr, mkI, iV, mkQ, qV, fV, ofV, rV, mkR]) (oA _) ?_
          simp -implicitDefEqProofs only [go_sem, simprocAttr, mkI, iV, mkQ, qV, fV, ofV, rV, mkR]
          refine wl_callV _ (by simp -implicitDefEqProofs only [go_sem, simprocAttr, mkI, iV, mkQ, qV, fV, ofV, rV, mkR, wa_cond, axC_t, axC_f, w1, w2, h1]) (oB _) ?_
          simp -implicitDefEqProofs only [go_sem, simprocAttr, mkI, iV, mkQ, qV, fV, ofV, rV, mkR, wa_cond, axC_t, axC_f, w1, w2, h1]
          simp -implicitDefEqProofs only [go_sem, simprocAttr, mkI, iV, mkQ, qV, fV, ofV, rV, mkR, res111]
          first | exact .app _ _ | exact ⟨.app _ _, rfl⟩ | exact .refl _ | exact ⟨.refl _, rfl⟩
        · by_cases h2 : y < x
          · rw [sgn_pos (by omega)]
            refine wl_callV _ (by simp -implicitDefEqProofs only [go_sem, simprocAttr, mkI, iV, mkQ, qV, fV, ofV, rV, mkR]) (oA _) ?_
            simp -implicitDefEqProofs only [go_sem, simprocAttr, mkI, iV, mkQ, qV, fV, ofV, rV, mkR]
            refine wl_callV _ (by simp -implicitDefEqProofs only [go_sem, simprocAttr, mkI, iV, mkQ, qV, fV, ofV, rV, mkR, wa_cond, axC_t, axC_f, w1, w2, h1, h2]) (oB _) ?_
            simp -implicitDefEqProofs only [go_sem, simprocAttr, mkI, iV, mkQ, qV, fV, ofV, rV, mkR, wa_cond, axC_t, axC_f, w1, w2, h1, h2]
            simp -implicitDefEqProofs only [go_sem, simprocAttr, mkI, iV, mkQ, qV, fV, ofV, rV, mkR, res111]
            first | exact .app _ _ | exact ⟨.app _ _, rfl⟩ | exact .refl _ | exact ⟨.refl _, rfl⟩
          · rw [sgn_zero.2 (by omega)]
            refine wl_callV _ (by simp -implicitDefEqProofs only [go_sem, simprocAttr, mkI, iV, mkQ, qV, fV, ofV, rV, mkR]) (oA _) ?_
            simp -implicitDefEqProofs only [go_sem, simprocAttr, mkI, iV, mkQ, qV, fV, ofV, rV, mkR]
            refine wl_callV _ (by simp -implicitDefEqProofs only [go_sem, simprocAttr, mkI, iV, mkQ, qV, fV, ofV, rV, mkR, wa_cond, axC_t, axC_f, w1, w2, h1, h2]) (oB _) ?_
            simp -implicitDefEqProofs only [go_sem, simprocAttr, mkI, iV, mkQ, qV, fV, ofV, rV, mkR, wa_cond, axC_t, axC_f, w1, w2, h1, h2]
            simp -implicitDefEqProofs only [go_sem, simprocAttr, mkI, iV, mkQ, qV, fV, ofV, rV, mkR, res111]
            first | exact .app _ _ | exact ⟨.app _ _, rfl⟩ | exact .refl _ | exact ⟨.refl _, rfl⟩
      · refine wl_callV _ (by simp -implicitDefEqProofs only [go_sem, simprocAttr, mkI, iV, mkQ, qV, fV, ofV, rV, mkR]) (oA _) ?_
        simp -implicitDefEqProofs only [go_sem, simprocAttr, mkI, iV, mkQ, qV, fV, ofV, rV, mkR]
        refine wl_callV _ (by simp -implicitDefEqProofs only [go_sem, simprocAttr, mkI, iV, mkQ, qV, fV, ofV, rV, mkR]) (oB _) ?_
        simp -implicitDefEqProofs only [go_sem, simprocAttr, mkI, iV, mkQ, qV, fV, ofV, rV, mkR]
        refine ax_mid _ ?_ hrest
        simp -implicitDefEqProofs only [go_sem, simprocAttr, mkI, iV, mkQ, qV, fV, ofV, rV, mkR, wa_cond, axC_t, axC_f]
    · obtain ⟨y1, y2, y3, oB⟩ : ∃ y1 y2 y3, ∀ H, Sim Tryz.prog 168 #[.agg #[.bool g', .string (bs n'), .string (bs d')]] H (.tuple #[.int .i64 y1, .int .i64 y2, .bool y3]) H := by
        rcases sB with ⟨_, _, oB⟩ | oB
        · exact ⟨_, _, _, oB⟩
        · exact ⟨_, _, _, oB⟩
      refine wl_callV _ (by simp -implicitDefEqProofs only [go_sem, simprocAttr, mkI, iV, mkQ, qV, fV, ofV, rV, mkR]) (oA _) ?_
      simp -implicitDefEqProofs only [go_sem, simprocAttr, mkI, iV, mkQ, qV, fV, ofV, rV, mkR]
      refine wl_callV _ (by simp -implicitDefEqProofs only [go_sem, simprocAttr, mkI, iV, mkQ, qV, fV, ofV, rV, mkR]) (oB _) ?_
      simp -implicitDefEqProofs only [go_sem, simprocAttr, mkI, iV, mkQ, qV, fV, ofV, rV, mkR]
      refine ax_mid _ ?_ hrest
      simp -implicitDefEqProofs only [go_sem, simprocAttr, mkI, iV, mkQ, qV, fV, ofV, rV, mkR, wa_cond, axC_t, axC_f]
  rintro s T ⟨s2, s3, rfl⟩
  simp -implicitDefEqProofs only [go_sem, simprocAttr, mkI, iV, mkQ, qV, fV, ofV, rV, mkR, s2, s3]
  refine wl_callV _ (by simp -implicitDefEqProofs only [go_sem, simprocAttr, mkI, iV, mkQ, qV, fV, ofV, rV, mkR, s2, s3]) (pA _) ?_
  simp -implicitDefEqProofs only [go_sem, simprocAttr, mkI, iV, mkQ, qV, fV, ofV, rV, mkR, s2, s3]
  refine wl_callV _ (by simp -implicitDefEqProofs only [go_sem, simprocAttr, mkI, iV, mkQ, qV, fV, ofV, rV, mkR, s2, s3]) (pB _) ?_
  simp -implicitDefEqProofs only [go_sem, simprocAttr, mkI, iV, mkQ, qV, fV, ofV, rV, mkR, s2, s3]
  refine ax_quiet (by kernel_rfl) ?_
  simp -implicitDefEqProofs only [go_sem, simprocAttr, mkI, iV, mkQ, qV, fV, ofV, rV, mkR]
  refine wl_callV _ (by simp -implicitDefEqProofs only [go_sem, simprocAttr, mkI, iV, mkQ, qV, fV, ofV, rV, mkR]) (m1 _) ?_
  simp -implicitDefEqProofs only [go_sem, simprocAttr, mkI, iV, mkQ, qV, fV, ofV, rV, mkR]
  refine wl_callV _ (by simp -implicitDefEqProofs only [go_sem, simprocAttr, mkI, iV, mkQ, qV, fV, ofV, rV, mkR]) (m2 _) ?_
  simp -implicitDefEqProofs only [go_sem, simprocAttr, mkI, iV, mkQ, qV, fV, ofV, rV, mkR]
  refine wl_callV _ (by simp -implicitDefEqProofs only [go_sem, simprocAttr, mkI, iV, mkQ, qV, fV, ofV, rV, mkR]) (m3 _) ?_
  simp -implicitDefEqProofs only [go_sem, simprocAttr, mkI, iV, mkQ, qV, fV, ofV, rV, mkR]
  simp -implicitDefEqProofs only [go_sem, simprocAttr, mkI, iV, mkQ, qV, fV, ofV, rV, mkR, res111]
  first | exact .app _ _ | exact ⟨.app _ _, rfl⟩ | exact .refl _ | exact ⟨.refl _, rfl⟩
end Go.Proofs.YthhmkaikopdmjaaGreat
set_option linter.unusedSimpArgs false
set_option linter.unusedVariables false
set_option maxRecDepth 8000
namespace Go.Proofs.YthhmkaikopdmjaaGreat
open Go Go.Fw
theorem signRQ (H : Heap) {v : Value} {q : Rat} {k : Nat} (hv : QV v q k) (hk : k ≤ 600000) : Sim Tryz.prog 189 #[v] H (.int .i64 (cmpQ q 0)) H := by
  refine flat_ex rfl ?_
  have o1 := fun H => cmpRQ H hv (QV.raw false [] [] (k := 8) (by decide) (by decide)) hk (by decide)
  have e0 : qval false [] [] = 0 := by unfold qval; rw [show ival false [] = 0 from rfl, Rat.zero_mkRat]
  rw [e0] at o1
  obtain ⟨g, n, d, rfl, rfl, h1, h2⟩ := hv
  generalize cmpQ (qval g n d) 0 = c at *
  unfold qV at *
  refine sim_ex tok mixed Tryz.func189 rfl (by kernel_rfl) (by kernel_rfl) (by simp only [Tryz.ntmps189, List.size_toArray, List.length_cons, List.length_nil]; omega) ?_
  simp -implicitDefEqProofs only [go_sem, simprocAttr, mkI, iV, mkQ, qV, fV, ofV, rV, mkR]
  refine wl_callV _ (by simp -implicitDefEqProofs only [go_sem, simprocAttr, mkI, iV, mkQ, qV, fV, ofV, rV, mkR]) (o1 _) ?_
  simp -implicitDefEqProofs only [go_sem, simprocAttr, mkI, iV, mkQ, qV, fV, ofV, rV, mkR]
  simp -implicitDefEqProofs only [go_sem, simprocAttr, mkI, iV, mkQ, qV, fV, ofV, rV, mkR, res189]
  first | exact .app _ _ | exact ⟨.app _ _, rfl⟩ | exact .refl _ | exact ⟨.refl _, rfl⟩
theorem subRQ (H : Heap) {v w : Value} {a b : Rat} {k k' : Nat} (hv : QV v a k) (hw : QV w b k') (hk : k ≤ 600000) (hk' : k' ≤ 600000) : Sim Tryz.prog 108 #[v, w] H (mkQ (a - b)) H := by
  refine flat_ex rfl ?_
  obtain ⟨g', n', d', rfl, rfl, h3, h4⟩ := hw
  have o1 := fun H => addRQ H hv (QV.raw (!g') n' d' h3 h4) hk hk'
  rw [qval_not, ← Rat.sub_eq_add_neg] at o1
  obtain ⟨g, n, d, rfl, rfl, h1, h2⟩ := hv
  generalize qval g n d - qval g' n' d' = q at *
  unfold qV at o1 ⊢
  refine sim_ex tok mixed Tryz.func108 rfl (by kernel_rfl) (by kernel_rfl) (by simp only [Tryz.ntmps108, List.size_toArray, List.length_cons, List.length_nil]; omega) ?_
  simp -implicitDefEqProofs only [go_sem, simprocAttr, mkI, iV, mkQ, qV, fV, ofV, rV, mkR]
  refine wl_callV _ (by simp -implicitDefEqProofs only [go_sem, simprocAttr, mkI, iV, mkQ, qV, fV, ofV, rV, mkR]) (o1 _) ?_
  simp -implicitDefEqProofs only [go_sem, simprocAttr, mkI, iV, mkQ, qV, fV, ofV, rV, mkR]
  simp -implicitDefEqProofs only [go_sem, simprocAttr, mkI, iV, mkQ, qV, fV, ofV, rV, mkR, res108]
  first | exact .app _ _ | exact ⟨.app _ _, rfl⟩ | exact .refl _ | exact ⟨.refl _, rfl⟩
theorem quoRQ (H : Heap) {v w : Value} {a b : Rat} {k k' : Nat} (hv : QV v a k) (hw : QV w b k') (hk : k ≤ 500000) (hk' : k' ≤ 500000) :
    Sim Tryz.prog 172 #[v, w] H (if b = 0 then .tuple #[mkQ 0, .int .i64 10] else .tuple #[mkQ (a / b), .int .i64 0]) H := by
  refine flat_ex (by split <;> rfl) ?_
  obtain ⟨g', n', d', rfl, rfl, h3, h4⟩ := hw
  have p2 := fun H => partsR H (g := g') (n := n') (d := d') (by omega) (by omega)
  have d0 := dval_pos d'
  have zP := ival_lt g' h3
  have zD := dval_lt h4
  rw [Int.natAbs_natCast] at zD
  have hm : QV (qV (decide (ival g' n' < 0)) (digB (dval d')) (digB (ival g' n').natAbs)) (qval (decide (ival g' n' < 0)) (digB (dval d')) (digB (ival g' n').natAbs)) (k' + 8) := QV.raw _ _ _ (digB_len2 zD) (digB_len2 zP)
  have o1 := fun H => mulRQ H hv hm (by omega) (by omega)
  have hinv : ival g' n' ≠ 0 → a * qval (decide (ival g' n' < 0)) (digB (dval d')) (digB (ival g' n').natAbs) = a / qval g' n' d' := by
    intro hz
    unfold qval
    generalize ival g' n' = P at *
    generalize dval d' = D at *
    have e1 : dval (digB P.natAbs) = P.natAbs := by unfold dval; rw [valB_dig, if_neg (by omega)]
    have e2 : ival (decide (P < 0)) (digB D) = if P < 0 then -(D : Int) else (D : Int) := by unfold ival; rw [valB_dig]; simp
    rw [e1, e2]
    have e3 := quo_law 1 P (d := 1) (e := D) (by decide) d0 hz
    rw [mkRat_one] at e3
    have e4 : a / mkRat P D = a * ((1 : Int) / mkRat P D : Rat) := by rw [Rat.div_def, Rat.div_def]; congr 1; rw [show ((1 : Int) : Rat) = 1 from rfl, Rat.one_mul]
    rw [e4, e3]
    congr 1
    rw [Int.one_mul, show ((1 : Nat) : Int) = 1 from rfl, Int.one_mul]
    by_cases h : P < 0
    · rw [if_pos h, divInt_neg2 h]
    · rw [if_neg h, divInt_pos (by omega)]
  have hb : qval g' n' d' = 0 ↔ ival g' n' = 0 := mkRat_ne d0
  have hnil : bs (digB (ival g' n').natAbs) = bs [] ↔ ival g' n' = 0 := by rw [bs_inj, digB_nil_iff]; omega
  obtain ⟨g, n, d, rfl, rfl, h1, h2⟩ := hv
  by_cases hz : ival g' n' = 0
  · have hb2 := hb.2 hz
    have hn := hnil.2 hz
    simp only [hb2, if_true]
    rw [mkQ_zero]
    clear o1
    generalize ival g' n' = P at *
    generalize dval d' = D at *
    unfold qV at *
    refine sim_ex tok mixed Tryz.func172 rfl (by kernel_rfl) (by kernel_rfl) (by simp only [Tryz.ntmps172, List.size_toArray, List.length_cons, List.length_nil]; omega) ?_
    simp -implicitDefEqProofs only [go_sem, simprocAttr, mkI, iV, mkQ, qV, fV, ofV, rV, mkR]
    refine wl_callV _ (by simp -implicitDefEqProofs only [go_sem, simprocAttr, mkI, iV, mkQ, qV, fV, ofV, rV, mkR, hn, wa_cond, axC_t, axC_f]) (p2 _) ?_
    simp -implicitDefEqProofs only [go_sem, simprocAttr, mkI, iV, mkQ, qV, fV, ofV, rV, mkR, hn, wa_cond, axC_t, axC_f]
    simp -implicitDefEqProofs only [go_sem, simprocAttr, mkI, iV, mkQ, qV, fV, ofV, rV, mkR, res172]
    first | exact .app _ _ | exact ⟨.app _ _, rfl⟩ | exact .refl _ | exact ⟨.refl _, rfl⟩
  · have hb2 : ¬ qval g' n' d' = 0 := fun h => hz (hb.1 h)
    have hn : ¬ bs (digB (ival g' n').natAbs) = bs [] := fun h => hz (hnil.1 h)
    simp only [hb2, if_false]
    rw [hinv hz] at o1
    clear hinv hm hb hnil hb2
    generalize qval g n d / qval g' n' d' = q at *
    generalize ival g' n' = P at *
    generalize dval d' = D at *
    unfold qV at *
    have hD : (((D : Nat) : Int)).natAbs = D := Int.natAbs_natCast D
    refine sim_ex tok mixed Tryz.func172 rfl (by kernel_rfl) (by kernel_rfl) (by simp only [Tryz.ntmps172, List.size_toArray, List.length_cons, List.length_nil]; omega) ?_
    simp -implicitDefEqProofs only [go_sem, simprocAttr, mkI, iV, mkQ, qV, fV, ofV, rV, mkR]
    refine wl_callV _ (by simp -implicitDefEqProofs only [go_sem, simprocAttr, mkI, iV, mkQ, qV, fV, ofV, rV, mkR, hn, wa_cond, axC_t, axC_f, hD]) (p2 _) ?_
    simp -implicitDefEqProofs only [go_sem, simprocAttr, mkI, iV, mkQ, qV, fV, ofV, rV, mkR, hn, wa_cond, axC_t, axC_f, hD]
    refine wl_callV _ (by simp -implicitDefEqProofs only [go_sem, simprocAttr, mkI, iV, mkQ, qV, fV, ofV, rV, mkR]) (o1 _) ?_
    simp -implicitDefEqProofs only [go_sem, simprocAttr, mkI, iV, mkQ, qV, fV, ofV, rV, mkR]
    simp -implicitDefEqProofs only [go_sem, simprocAttr, mkI, iV, mkQ, qV, fV, ofV, rV, mkR, res172]
    first | exact .app _ _ | exact ⟨.app _ _, rfl⟩ | exact .refl _ | exact ⟨.refl _, rfl⟩
end Go.Proofs.YthhmkaikopdmjaaGreat
set_option linter.unusedSimpArgs false
set_option linter.unusedVariables false
set_option maxRecDepth 8000
namespace Go.Proofs.YthhmkaikopdmjaaGreat
open Go Go.Fw
end Go.Proofs.YthhmkaikopdmjaaGreat
set_option linter.unusedSimpArgs false
set_option linter.unusedVariables false
set_option maxRecDepth 8000
namespace Go.Proofs.YthhmkaikopdmjaaGreat
open Go Go.Fw
theorem overRQ (H : Heap) {v w : Value} {a b : Rat} {k k' : Nat} (hv : QV v a k) (hw : QV w b k') (hk : k ≤ 500000) (hk' : k' ≤ 500000) : Sim Tryz.prog 107 #[v, w] H (mkQ (a / b)) H := by
  refine flat_ex rfl ?_
  obtain ⟨e, o1⟩ : ∃ e : Int, ∀ H, Sim Tryz.prog 172 #[v, w] H (.tuple #[mkQ (a / b), .int .i64 e]) H := by
    by_cases h0 : b = 0
    · refine ⟨10, fun H => ?_⟩
      have := quoRQ H hv hw hk hk'
      rw [if_pos h0] at this
      rw [h0, Rat.div_def, Rat.inv_zero, Rat.mul_zero]
      exact this
    · refine ⟨0, fun H => ?_⟩
      have := quoRQ H hv hw hk hk'
      rw [if_neg h0] at this
      exact this
  generalize a / b = z at *
  obtain ⟨g, n, d, rfl, rfl, h1, h2⟩ := hv
  obtain ⟨g', n', d', rfl, rfl, h3, h4⟩ := hw
  unfold qV at o1 ⊢
  refine sim_ex tok mixed Tryz.func107 rfl (by kernel_rfl) (by kernel_rfl) (by simp only [Tryz.ntmps107, List.size_toArray, List.length_cons, List.length_nil]; omega) ?_
  simp -implicitDefEqProofs only [go_sem, simprocAttr, mkI, iV, mkQ, qV, fV, ofV, rV, mkR]
  refine wl_callV _ (by simp -implicitDefEqProofs only [go_sem, simprocAttr, mkI, iV, mkQ, qV, fV, ofV, rV, mkR]) (o1 _) ?_
  simp -implicitDefEqProofs only [go_sem, simprocAttr, mkI, iV, mkQ, qV, fV, ofV, rV, mkR]
  simp -implicitDefEqProofs only [go_sem, simprocAttr, mkI, iV, mkQ, qV, fV, ofV, rV, mkR, res107]
  first | exact .app _ _ | exact ⟨.app _ _, rfl⟩ | exact .refl _ | exact ⟨.refl _, rfl⟩
theorem back4 (H : Heap) {r : RR} {k : Nat} (hr : r.le k) (hk : k ≤ 100000) : Sim Tryz.prog 122 #[r.val] H (.agg #[.bool r.g, .string (bs r.n), .string (bs r.d), .bool (decide ((-r.rot.s).num < 0)), .string (bs (digB (-r.rot.s).num.natAbs)), .string (bs (denB (-r.rot.s).den))]) H := by
  refine flat_ex rfl ?_
  have o1 := fun H => negRQ H hr.s (by omega)
  generalize -r.rot.s = z at *
  unfold qV at o1
  unfold RR.val rV
  refine sim_ex tok mixed Tryz.func122 rfl (by kernel_rfl) (by kernel_rfl) (by simp only [Tryz.ntmps122, List.size_toArray, List.length_cons, List.length_nil]; omega) ?_
  simp -implicitDefEqProofs only [go_sem, simprocAttr, mkI, iV, mkQ, qV, fV, ofV, rV, mkR]
  refine ax_quiet (by kernel_rfl) ?_
  simp -implicitDefEqProofs only [go_sem, simprocAttr, mkI, iV, mkQ, qV, fV, ofV, rV, mkR]
  refine wl_callV _ (by simp -implicitDefEqProofs only [go_sem, simprocAttr, mkI, iV, mkQ, qV, fV, ofV, rV, mkR]) (o1 _) ?_
  simp -implicitDefEqProofs only [go_sem, simprocAttr, mkI, iV, mkQ, qV, fV, ofV, rV, mkR]
  simp -implicitDefEqProofs only [go_sem, simprocAttr, mkI, iV, mkQ, qV, fV, ofV, rV, mkR, res122]
  first | exact .app _ _ | exact ⟨.app _ _, rfl⟩ | exact .refl _ | exact ⟨.refl _, rfl⟩
theorem then4 (H : Heap) {a b : RR} {k : Nat} (ha : a.le k) (hb : b.le k) (hk : k ≤ 20000) : Sim Tryz.prog 104 #[a.val, b.val] H (RR.of (a.rot.thn b.rot)).val H := by
  refine flat_ex rfl ?_
  have o1 := fun H => mulRQ H ha.c hb.c (by omega) (by omega)
  have o2 := fun H => mulRQ H ha.s hb.s (by omega) (by omega)
  have o3 := fun H => mulRQ H ha.s hb.c (by omega) (by omega)
  have o4 := fun H => mulRQ H ha.c hb.s (by omega) (by omega)
  have q1 := (ha.c.sz.mul hb.c.sz).qv
  have q2 := (ha.s.sz.mul hb.s.sz).qv
  have q3 := (ha.s.sz.mul hb.c.sz).qv
  have q4 := (ha.c.sz.mul hb.s.sz).qv
  have s1 := fun H => subRQ H q1 q2 (by omega) (by omega)
  have s2 := fun H => addRQ H q3 q4 (by omega) (by omega)
  have e1 : a.rot.c * b.rot.c - a.rot.s * b.rot.s = (a.rot.thn b.rot).c := rfl
  have e2 : a.rot.s * b.rot.c + a.rot.c * b.rot.s = (a.rot.thn b.rot).s := rfl
  rw [e1] at s1
  rw [e2] at s2
  rw [RR.of_val]
  generalize (a.rot.thn b.rot).c = x at *
  generalize (a.rot.thn b.rot).s = y at *
  clear q1 q2 q3 q4 e1 e2
  generalize a.rot.c * b.rot.c = p1 at *
  generalize a.rot.s * b.rot.s = p2 at *
  generalize a.rot.s * b.rot.c = p3 at *
  generalize a.rot.c * b.rot.s = p4 at *
  unfold qV at o1 o2 o3 o4
  unfold RR.val rV
  refine sim_ex tok mixed Tryz.func104 rfl (by kernel_rfl) (by kernel_rfl) (by simp only [Tryz.ntmps104, List.size_toArray, List.length_cons, List.length_nil]; omega) ?_
  simp -implicitDefEqProofs only [go_sem, simprocAttr, mkI, iV, mkQ, qV, fV, ofV, rV, mkR]
  refine ax_quiet (by kernel_rfl) ?_
  simp -implicitDefEqProofs only [go_sem, simprocAttr, mkI, iV, mkQ, qV, fV, ofV, rV, mkR]
  refine wl_callV _ (by simp -implicitDefEqProofs only [go_sem, simprocAttr, mkI, iV, mkQ, qV, fV, ofV, rV, mkR]) (o1 _) ?_
  simp -implicitDefEqProofs only [go_sem, simprocAttr, mkI, iV, mkQ, qV, fV, ofV, rV, mkR]
  refine wl_callV _ (by simp -implicitDefEqProofs only [go_sem, simprocAttr, mkI, iV, mkQ, qV, fV, ofV, rV, mkR]) (o2 _) ?_
  simp -implicitDefEqProofs only [go_sem, simprocAttr, mkI, iV, mkQ, qV, fV, ofV, rV, mkR]
  refine wl_callV _ (by simp -implicitDefEqProofs only [go_sem, simprocAttr, mkI, iV, mkQ, qV, fV, ofV, rV, mkR]) (s1 _) ?_
  simp -implicitDefEqProofs only [go_sem, simprocAttr, mkI, iV, mkQ, qV, fV, ofV, rV, mkR]
  refine wl_callV _ (by simp -implicitDefEqProofs only [go_sem, simprocAttr, mkI, iV, mkQ, qV, fV, ofV, rV, mkR]) (o3 _) ?_
  simp -implicitDefEqProofs only [go_sem, simprocAttr, mkI, iV, mkQ, qV, fV, ofV, rV, mkR]
  refine wl_callV _ (by simp -implicitDefEqProofs only [go_sem, simprocAttr, mkI, iV, mkQ, qV, fV, ofV, rV, mkR]) (o4 _) ?_
  simp -implicitDefEqProofs only [go_sem, simprocAttr, mkI, iV, mkQ, qV, fV, ofV, rV, mkR]
  refine wl_callV _ (by simp -implicitDefEqProofs only [go_sem, simprocAttr, mkI, iV, mkQ, qV, fV, ofV, rV, mkR]) (s2 _) ?_
  simp -implicitDefEqProofs only [go_sem, simprocAttr, mkI, iV, mkQ, qV, fV, ofV, rV, mkR]
  simp -implicitDefEqProofs only [go_sem, simprocAttr, mkI, iV, mkQ, qV, fV, ofV, rV, mkR, res104]
  first | exact .app _ _ | exact ⟨.app _ _, rfl⟩ | exact .refl _ | exact ⟨.refl _, rfl⟩
theorem upper4 (H : Heap) {r : RR} {k : Nat} (hr : r.le k) (hk : k ≤ 600000) (hok : r.rot.ok) : Sim Tryz.prog 123 #[r.val] H (.bool (decide (r.rot.half = 0))) H := by
  refine flat_ex rfl ?_
  have o1 := fun H => signRQ H hr.c hk
  have o2 := fun H => signRQ H hr.s hk
  unfold qV at o1 o2
  unfold RR.val rV
  have hc := cmpQ_cases r.rot.c 0
  have hs := cmpQ_cases r.rot.s 0
  have hh : (r.rot.half = 0) ↔ (0 < r.rot.s ∨ (r.rot.s = 0 ∧ 0 < r.rot.c)) := by
    unfold Rot.ok at hok
    unfold Rot.half
    by_cases h1 : 0 < r.rot.s
    · simp [h1]
    · by_cases h2 : r.rot.s < 0
      · rw [if_neg h1, if_pos h2]
        constructor
        · intro h; exact absurd h (by decide)
        · rintro (h | ⟨h, _⟩) <;> grind
      · have h3 : r.rot.s = 0 := by grind
        by_cases h4 : r.rot.c < 0
        · rw [if_neg h1, if_neg h2, if_pos h4]
          constructor
          · intro h; exact absurd h (by decide)
          · rintro (h | ⟨_, h⟩) <;> grind
        · rw [if_neg h1, if_neg h2, if_neg h4]
          simp only [true_iff]
          right
          refine ⟨h3, ?_⟩
          have : r.rot.c ≠ 0 := fun h5 => by rw [h3, h5] at hok; exact absurd hok (by decide +kernel)
          grind
  clear hok
  generalize cmpQ r.rot.c 0 = x at *
  generalize cmpQ r.rot.s 0 = y at *
  rcases hs with ⟨rfl, hs⟩ | ⟨rfl, hs⟩ | ⟨rfl, hs⟩
  · rw [decide_eq_false (fun h => by rcases hh.1 h with h | ⟨h, _⟩ <;> grind)]
    refine sim_ex tok mixed Tryz.func123 rfl (by kernel_rfl) (by kernel_rfl) (by simp only [Tryz.ntmps123, List.size_toArray, List.length_cons, List.length_nil]; omega) ?_
    simp -implicitDefEqProofs only [go_sem, simprocAttr, mkI, iV, mkQ, qV, fV, ofV, rV, mkR]
    refine wl_callV _ (by simp -implicitDefEqProofs only [go_sem, simprocAttr, mkI, iV, mkQ, qV, fV, ofV, rV, mkR]) (o2 _) ?_
    simp -implicitDefEqProofs only [go_sem, simprocAttr, mkI, iV, mkQ, qV, fV, ofV, rV, mkR]
    simp -implicitDefEqProofs only [go_sem, simprocAttr, mkI, iV, mkQ, qV, fV, ofV, rV, mkR, res123]
    first | exact .app _ _ | exact ⟨.app _ _, rfl⟩ | exact .refl _ | exact ⟨.refl _, rfl⟩
  · rcases hc with ⟨rfl, hc⟩ | ⟨rfl, hc⟩ | ⟨rfl, hc⟩
    · rw [decide_eq_false (fun h => by rcases hh.1 h with h | ⟨_, h⟩ <;> grind)]
      refine sim_ex tok mixed Tryz.func123 rfl (by kernel_rfl) (by kernel_rfl) (by simp only [Tryz.ntmps123, List.size_toArray, List.length_cons, List.length_nil]; omega) ?_
      simp -implicitDefEqProofs only [go_sem, simprocAttr, mkI, iV, mkQ, qV, fV, ofV, rV, mkR]
      refine wl_callV _ (by simp -implicitDefEqProofs only [go_sem, simprocAttr, mkI, iV, mkQ, qV, fV, ofV, rV, mkR]) (o2 _) ?_
      simp -implicitDefEqProofs only [go_sem, simprocAttr, mkI, iV, mkQ, qV, fV, ofV, rV, mkR]
      refine wl_callV _ (by simp -implicitDefEqProofs only [go_sem, simprocAttr, mkI, iV, mkQ, qV, fV, ofV, rV, mkR]) (o1 _) ?_
      simp -implicitDefEqProofs only [go_sem, simprocAttr, mkI, iV, mkQ, qV, fV, ofV, rV, mkR]
      simp -implicitDefEqProofs only [go_sem, simprocAttr, mkI, iV, mkQ, qV, fV, ofV, rV, mkR, res123]
      first | exact .app _ _ | exact ⟨.app _ _, rfl⟩ | exact .refl _ | exact ⟨.refl _, rfl⟩
    · rw [decide_eq_false (fun h => by rcases hh.1 h with h | ⟨_, h⟩ <;> grind)]
      refine sim_ex tok mixed Tryz.func123 rfl (by kernel_rfl) (by kernel_rfl) (by simp only [Tryz.ntmps123, List.size_toArray, List.length_cons, List.length_nil]; omega) ?_
      simp -implicitDefEqProofs only [go_sem, simprocAttr, mkI, iV, mkQ, qV, fV, ofV, rV, mkR]
      refine wl_callV _ (by simp -implicitDefEqProofs only [go_sem, simprocAttr, mkI, iV, mkQ, qV, fV, ofV, rV, mkR]) (o2 _) ?_
      simp -implicitDefEqProofs only [go_sem, simprocAttr, mkI, iV, mkQ, qV, fV, ofV, rV, mkR]
      refine wl_callV _ (by simp -implicitDefEqProofs only [go_sem, simprocAttr, mkI, iV, mkQ, qV, fV, ofV, rV, mkR]) (o1 _) ?_
      simp -implicitDefEqProofs only [go_sem, simprocAttr, mkI, iV, mkQ, qV, fV, ofV, rV, mkR]
      simp -implicitDefEqProofs only [go_sem, simprocAttr, mkI, iV, mkQ, qV, fV, ofV, rV, mkR, res123]
      first | exact .app _ _ | exact ⟨.app _ _, rfl⟩ | exact .refl _ | exact ⟨.refl _, rfl⟩
    · rw [decide_eq_true (hh.2 (.inr ⟨hs, hc⟩))]
      refine sim_ex tok mixed Tryz.func123 rfl (by kernel_rfl) (by kernel_rfl) (by simp only [Tryz.ntmps123, List.size_toArray, List.length_cons, List.length_nil]; omega) ?_
      simp -implicitDefEqProofs only [go_sem, simprocAttr, mkI, iV, mkQ, qV, fV, ofV, rV, mkR]
      refine wl_callV _ (by simp -implicitDefEqProofs only [go_sem, simprocAttr, mkI, iV, mkQ, qV, fV, ofV, rV, mkR]) (o2 _) ?_
      simp -implicitDefEqProofs only [go_sem, simprocAttr, mkI, iV, mkQ, qV, fV, ofV, rV, mkR]
      refine wl_callV _ (by simp -implicitDefEqProofs only [go_sem, simprocAttr, mkI, iV, mkQ, qV, fV, ofV, rV, mkR]) (o1 _) ?_
      simp -implicitDefEqProofs only [go_sem, simprocAttr, mkI, iV, mkQ, qV, fV, ofV, rV, mkR]
      simp -implicitDefEqProofs only [go_sem, simprocAttr, mkI, iV, mkQ, qV, fV, ofV, rV, mkR, res123]
      first | exact .app _ _ | exact ⟨.app _ _, rfl⟩ | exact .refl _ | exact ⟨.refl _, rfl⟩
  · rw [decide_eq_true (hh.2 (.inl hs))]
    refine sim_ex tok mixed Tryz.func123 rfl (by kernel_rfl) (by kernel_rfl) (by simp only [Tryz.ntmps123, List.size_toArray, List.length_cons, List.length_nil]; omega) ?_
    simp -implicitDefEqProofs only [go_sem, simprocAttr, mkI, iV, mkQ, qV, fV, ofV, rV, mkR]
    refine wl_callV _ (by simp -implicitDefEqProofs only [go_sem, simprocAttr, mkI, iV, mkQ, qV, fV, ofV, rV, mkR]) (o2 _) ?_
    simp -implicitDefEqProofs only [go_sem, simprocAttr, mkI, iV, mkQ, qV, fV, ofV, rV, mkR]
    simp -implicitDefEqProofs only [go_sem, simprocAttr, mkI, iV, mkQ, qV, fV, ofV, rV, mkR, res123]
    first | exact .app _ _ | exact ⟨.app _ _, rfl⟩ | exact .refl _ | exact ⟨.refl _, rfl⟩
theorem compare4 (H : Heap) {a b : RR} {k : Nat} (ha : a.le k) (hb : b.le k) (hk : k ≤ 19000) (oka : a.rot.ok) (okb : b.rot.ok) : Sim Tryz.prog 174 #[a.val, b.val] H (.int .i64 (a.rot.cmp b.rot)) H := by
  refine flat_ex rfl ?_
  have o1 := fun H => upper4 H ha (by omega) oka
  have o2 := fun H => upper4 H hb (by omega) okb
  have o3 := fun H => back4 H hb (by omega)
  have o4 := fun H => then4 H hb.bk (ha.mono (show k ≤ k + 8 by omega)) (by omega)
  have o5 := fun H => signRQ H ((hb.bk.sz.thn ha.sz).s.qv) (by omega)
  rw [RR.bk_rot] at o4 o5
  have h1 := a.rot.half_le
  have h2 := b.rot.half_le
  unfold Rot.cmp
  generalize a.rot.half = x at *
  generalize b.rot.half = y at *
  rw [RR.of_val] at o4
  by_cases h0 : x - y ≠ 0
  · rw [if_pos h0]
    clear o3 o4 o5
    unfold RR.val rV at o1 o2 ⊢
    rcases h1 with rfl | rfl
    · have hy : y = 1 := by omega
      subst hy
      simp only [decide_true, show decide ((1 : Int) = 0) = false from rfl] at o1 o2
      refine sim_ex tok mixed Tryz.func174 rfl (by kernel_rfl) (by kernel_rfl) (by simp only [Tryz.ntmps174, List.size_toArray, List.length_cons, List.length_nil]; omega) ?_
      simp -implicitDefEqProofs only [go_sem, simprocAttr, mkI, iV, mkQ, qV, fV, ofV, rV, mkR]
      refine ax_quiet (by kernel_rfl) ?_
      simp -implicitDefEqProofs only [go_sem, simprocAttr, mkI, iV, mkQ, qV, fV, ofV, rV, mkR]
      refine wl_callV _ (by simp -implicitDefEqProofs only [go_sem, simprocAttr, mkI, iV, mkQ, qV, fV, ofV, rV, mkR]) (o1 _) ?_
      simp -implicitDefEqProofs only [go_sem, simprocAttr, mkI, iV, mkQ, qV, fV, ofV, rV, mkR]
      refine wl_callV _ (by simp -implicitDefEqProofs only [go_sem, simprocAttr, mkI, iV, mkQ, qV, fV, ofV, rV, mkR, bne4, show (true == false) = false from rfl, wa_cond, axC_t, axC_f]) (o2 _) ?_
      simp -implicitDefEqProofs only [go_sem, simprocAttr, mkI, iV, mkQ, qV, fV, ofV, rV, mkR, bne4, show (true == false) = false from rfl, wa_cond, axC_t, axC_f]
      refine wl_callV _ (by simp -implicitDefEqProofs only [go_sem, simprocAttr, mkI, iV, mkQ, qV, fV, ofV, rV, mkR, wa_cond, axC_t, axC_f]) (o1 _) ?_
      simp -implicitDefEqProofs only [go_sem, simprocAttr, mkI, iV, mkQ, qV, fV, ofV, rV, mkR, wa_cond, axC_t, axC_f]
      simp -implicitDefEqProofs only [go_sem, simprocAttr, mkI, iV, mkQ, qV, fV, ofV, rV, mkR, res174]
      first | exact .app _ _ | exact ⟨.app _ _, rfl⟩ | exact .refl _ | exact ⟨.refl _, rfl⟩
    · have hy : y = 0 := by omega
      subst hy
      simp only [decide_true, show decide ((1 : Int) = 0) = false from rfl] at o1 o2
      refine sim_ex tok mixed Tryz.func174 rfl (by kernel_rfl) (by kernel_rfl) (by simp only [Tryz.ntmps174, List.size_toArray, List.length_cons, List.length_nil]; omega) ?_
      simp -implicitDefEqProofs only [go_sem, simprocAttr, mkI, iV, mkQ, qV, fV, ofV, rV, mkR]
      refine ax_quiet (by kernel_rfl) ?_
      simp -implicitDefEqProofs only [go_sem, simprocAttr, mkI, iV, mkQ, qV, fV, ofV, rV, mkR]
      refine wl_callV _ (by simp -implicitDefEqProofs only [go_sem, simprocAttr, mkI, iV, mkQ, qV, fV, ofV, rV, mkR]) (o1 _) ?_
      simp -implicitDefEqProofs only [go_sem, simprocAttr, mkI, iV, mkQ, qV, fV, ofV, rV, mkR]
      refine wl_callV _ (by simp -implicitDefEqProofs only [go_sem, simprocAttr, mkI, iV, mkQ, qV, fV, ofV, rV, mkR, bne4, show (false == true) = false from rfl, wa_cond, axC_t, axC_f]) (o2 _) ?_
      simp -implicitDefEqProofs only [go_sem, simprocAttr, mkI, iV, mkQ, qV, fV, ofV, rV, mkR, bne4, show (false == true) = false from rfl, wa_cond, axC_t, axC_f]
      refine wl_callV _ (by simp -implicitDefEqProofs only [go_sem, simprocAttr, mkI, iV, mkQ, qV, fV, ofV, rV, mkR, wa_cond, axC_t, axC_f]) (o1 _) ?_
      simp -implicitDefEqProofs only [go_sem, simprocAttr, mkI, iV, mkQ, qV, fV, ofV, rV, mkR, wa_cond, axC_t, axC_f]
      simp -implicitDefEqProofs only [go_sem, simprocAttr, mkI, iV, mkQ, qV, fV, ofV, rV, mkR, res174]
      first | exact .app _ _ | exact ⟨.app _ _, rfl⟩ | exact .refl _ | exact ⟨.refl _, rfl⟩
  · rw [if_neg h0]
    have hxy : x = y := by omega
    subst hxy
    generalize decide (x = 0) = ub at *
    generalize cmpQ (b.rot.back.thn a.rot).s 0 = z at *
    generalize (b.rot.back.thn a.rot).s = ss at *
    generalize (b.rot.back.thn a.rot).c = cc at *
    unfold RR.bk at o4
    unfold RR.val rV at o1 o2 o3 o4 ⊢
    have hu : (ub == ub) = true := by simp
    refine sim_ex tok mixed Tryz.func174 rfl (by kernel_rfl) (by kernel_rfl) (by simp only [Tryz.ntmps174, List.size_toArray, List.length_cons, List.length_nil]; omega) ?_
    simp -implicitDefEqProofs only [go_sem, simprocAttr, mkI, iV, mkQ, qV, fV, ofV, rV, mkR]
    refine ax_quiet (by kernel_rfl) ?_
    simp -implicitDefEqProofs only [go_sem, simprocAttr, mkI, iV, mkQ, qV, fV, ofV, rV, mkR]
    refine wl_callV _ (by simp -implicitDefEqProofs only [go_sem, simprocAttr, mkI, iV, mkQ, qV, fV, ofV, rV, mkR]) (o1 _) ?_
    simp -implicitDefEqProofs only [go_sem, simprocAttr, mkI, iV, mkQ, qV, fV, ofV, rV, mkR]
    refine wl_callV _ (by simp -implicitDefEqProofs only [go_sem, simprocAttr, mkI, iV, mkQ, qV, fV, ofV, rV, mkR, bne4, hu, wa_cond, axC_t, axC_f]) (o2 _) ?_
    simp -implicitDefEqProofs only [go_sem, simprocAttr, mkI, iV, mkQ, qV, fV, ofV, rV, mkR, bne4, hu, wa_cond, axC_t, axC_f]
    refine ax_quiet (by kernel_rfl) ?_
    simp -implicitDefEqProofs only [go_sem, simprocAttr, mkI, iV, mkQ, qV, fV, ofV, rV, mkR]
    refine wl_callV _ (by simp -implicitDefEqProofs only [go_sem, simprocAttr, mkI, iV, mkQ, qV, fV, ofV, rV, mkR]) (o3 _) ?_
    simp -implicitDefEqProofs only [go_sem, simprocAttr, mkI, iV, mkQ, qV, fV, ofV, rV, mkR]
    refine wl_callV _ (by simp -implicitDefEqProofs only [go_sem, simprocAttr, mkI, iV, mkQ, qV, fV, ofV, rV, mkR, aField, partL]) (o4 _) ?_
    simp -implicitDefEqProofs only [go_sem, simprocAttr, mkI, iV, mkQ, qV, fV, ofV, rV, mkR, aField, partL]
    refine wl_callV _ (by simp -implicitDefEqProofs only [go_sem, simprocAttr, mkI, iV, mkQ, qV, fV, ofV, rV, mkR]) (o5 _) ?_
    simp -implicitDefEqProofs only [go_sem, simprocAttr, mkI, iV, mkQ, qV, fV, ofV, rV, mkR]
    simp -implicitDefEqProofs only [go_sem, simprocAttr, mkI, iV, mkQ, qV, fV, ofV, rV, mkR, res174]
    first | exact .app _ _ | exact ⟨.app _ _, rfl⟩ | exact .refl _ | exact ⟨.refl _, rfl⟩
theorem qcheck2 (H : Heap) {r : RR} {k : Nat} (hr : r.le k) (hk : k ≤ 100000) : (Sim Tryz.prog 110 #[.agg #[.bool r.g, .string (bs r.n), .string (bs r.d)]] H (.int .i64 (if isCan r.g r.n r.d = true then 0 else 1)) H) ∧
    Sim Tryz.prog 110 #[.agg #[.bool r.g', .string (bs r.n'), .string (bs r.d')]] H (.int .i64 (if isCan r.g' r.n' r.d' = true then 0 else 1)) H := by
  have h1 := hr.n
  have h2 := hr.d
  have h3 := hr.n'
  have h4 := hr.d'
  exact ⟨qcheckR H (by omega) (by omega), qcheckR H (by omega) (by omega)⟩
theorem check4 (H : Heap) {r : RR} {k : Nat} (hr : r.le k) (hk : k ≤ 20000) : Sim Tryz.prog 55 #[r.val] H (.int .i64 r.err) H := by
  refine flat_ex rfl ?_
  have c1 := fun H => (qcheck2 H hr (by omega)).1
  have c2 := fun H => (qcheck2 H hr (by omega)).2
  unfold RR.err
  unfold RR.val rV
  cases i1 : isCan r.g r.n r.d
  · simp only [i1, Bool.false_and, Bool.false_eq_true, if_false] at c1 ⊢
    refine sim_ex tok mixed Tryz.func55 rfl (by kernel_rfl) (by kernel_rfl) (by simp only [Tryz.ntmps55, List.size_toArray, List.length_cons, List.length_nil]; omega) ?_
    simp -implicitDefEqProofs only [go_sem, simprocAttr, mkI, iV, mkQ, qV, fV, ofV, rV, mkR]
    refine wl_callV _ (by simp -implicitDefEqProofs only [go_sem, simprocAttr, mkI, iV, mkQ, qV, fV, ofV, rV, mkR, wa_cond, axC_t, axC_f]) (c1 _) ?_
    simp -implicitDefEqProofs only [go_sem, simprocAttr, mkI, iV, mkQ, qV, fV, ofV, rV, mkR, wa_cond, axC_t, axC_f]
    simp -implicitDefEqProofs only [go_sem, simprocAttr, mkI, iV, mkQ, qV, fV, ofV, rV, mkR, res55]
    first | exact .app _ _ | exact ⟨.app _ _, rfl⟩ | exact .refl _ | exact ⟨.refl _, rfl⟩
  cases i2 : isCan r.g' r.n' r.d'
  · simp only [i1, i2, Bool.and_false, Bool.false_eq_true, if_false, if_true] at c1 c2 ⊢
    refine sim_ex tok mixed Tryz.func55 rfl (by kernel_rfl) (by kernel_rfl) (by simp only [Tryz.ntmps55, List.size_toArray, List.length_cons, List.length_nil]; omega) ?_
    simp -implicitDefEqProofs only [go_sem, simprocAttr, mkI, iV, mkQ, qV, fV, ofV, rV, mkR]
    refine wl_callV _ (by simp -implicitDefEqProofs only [go_sem, simprocAttr, mkI, iV, mkQ, qV, fV, ofV, rV, mkR, wa_cond, axC_t, axC_f]) (c1 _) ?_
    simp -implicitDefEqProofs only [go_sem, simprocAttr, mkI, iV, mkQ, qV, fV, ofV, rV, mkR, wa_cond, axC_t, axC_f]
    refine wl_callV _ (by simp -implicitDefEqProofs only [go_sem, simprocAttr, mkI, iV, mkQ, qV, fV, ofV, rV, mkR, wa_cond, axC_t, axC_f]) (c2 _) ?_
    simp -implicitDefEqProofs only [go_sem, simprocAttr, mkI, iV, mkQ, qV, fV, ofV, rV, mkR, wa_cond, axC_t, axC_f]
    simp -implicitDefEqProofs only [go_sem, simprocAttr, mkI, iV, mkQ, qV, fV, ofV, rV, mkR, res55]
    first | exact .app _ _ | exact ⟨.app _ _, rfl⟩ | exact .refl _ | exact ⟨.refl _, rfl⟩
  simp only [i1, i2, Bool.and_true, if_true] at c1 c2 ⊢
  have o1 := fun H => mulRQ H hr.c hr.c (by omega) (by omega)
  have o2 := fun H => mulRQ H hr.s hr.s (by omega) (by omega)
  have q1 := (hr.c.sz.mul hr.c.sz)
  have q2 := (hr.s.sz.mul hr.s.sz)
  have s1 := fun H => addRQ H q1.qv q2.qv (by omega) (by omega)
  have o3 := fun H => ofNR H (n := 1) (by decide) (by decide)
  rw [show ((1 : Int) : Rat) = 1 from rfl] at o3
  have o4 := fun H => cmpRQ H (q1.add q2).qv (sz_one (k := 2) (by decide)).qv (by omega) (by decide)
  have hok : r.rot.ok ↔ r.rot.c * r.rot.c + r.rot.s * r.rot.s = 1 := Iff.rfl
  clear q1 q2
  generalize r.rot.c * r.rot.c + r.rot.s * r.rot.s = z at *
  generalize r.rot.c * r.rot.c = p1 at *
  generalize r.rot.s * r.rot.s = p2 at *
  have hz := cmpQ_cases z 1
  unfold qV at o1 o2
  by_cases h0 : r.rot.ok
  · have hc : cmpQ z 1 = 0 := by have := hok.1 h0; grind
    simp only [h0, if_true]
    rw [hc] at o4
    clear hz hc hok
    refine sim_ex tok mixed Tryz.func55 rfl (by kernel_rfl) (by kernel_rfl) (by simp only [Tryz.ntmps55, List.size_toArray, List.length_cons, List.length_nil]; omega) ?_
    simp -implicitDefEqProofs only [go_sem, simprocAttr, mkI, iV, mkQ, qV, fV, ofV, rV, mkR]
    refine wl_callV _ (by simp -implicitDefEqProofs only [go_sem, simprocAttr, mkI, iV, mkQ, qV, fV, ofV, rV, mkR, wa_cond, axC_t, axC_f]) (c1 _) ?_
    simp -implicitDefEqProofs only [go_sem, simprocAttr, mkI, iV, mkQ, qV, fV, ofV, rV, mkR, wa_cond, axC_t, axC_f]
    refine wl_callV _ (by simp -implicitDefEqProofs only [go_sem, simprocAttr, mkI, iV, mkQ, qV, fV, ofV, rV, mkR, wa_cond, axC_t, axC_f]) (c2 _) ?_
    simp -implicitDefEqProofs only [go_sem, simprocAttr, mkI, iV, mkQ, qV, fV, ofV, rV, mkR, wa_cond, axC_t, axC_f]
    refine ax_quiet (by kernel_rfl) ?_
    simp -implicitDefEqProofs only [go_sem, simprocAttr, mkI, iV, mkQ, qV, fV, ofV, rV, mkR]
    refine wl_callV _ (by simp -implicitDefEqProofs only [go_sem, simprocAttr, mkI, iV, mkQ, qV, fV, ofV, rV, mkR]) (o1 _) ?_
    simp -implicitDefEqProofs only [go_sem, simprocAttr, mkI, iV, mkQ, qV, fV, ofV, rV, mkR]
    refine wl_callV _ (by simp -implicitDefEqProofs only [go_sem, simprocAttr, mkI, iV, mkQ, qV, fV, ofV, rV, mkR]) (o2 _) ?_
    simp -implicitDefEqProofs only [go_sem, simprocAttr, mkI, iV, mkQ, qV, fV, ofV, rV, mkR]
    refine wl_callV _ (by simp -implicitDefEqProofs only [go_sem, simprocAttr, mkI, iV, mkQ, qV, fV, ofV, rV, mkR]) (s1 _) ?_
    simp -implicitDefEqProofs only [go_sem, simprocAttr, mkI, iV, mkQ, qV, fV, ofV, rV, mkR]
    refine wl_callV _ (by simp -implicitDefEqProofs only [go_sem, simprocAttr, mkI, iV, mkQ, qV, fV, ofV, rV, mkR]) (o3 _) ?_
    simp -implicitDefEqProofs only [go_sem, simprocAttr, mkI, iV, mkQ, qV, fV, ofV, rV, mkR]
    refine wl_callV _ (by simp -implicitDefEqProofs only [go_sem, simprocAttr, mkI, iV, mkQ, qV, fV, ofV, rV, mkR, wa_cond, axC_t, axC_f]) (o4 _) ?_
    simp -implicitDefEqProofs only [go_sem, simprocAttr, mkI, iV, mkQ, qV, fV, ofV, rV, mkR, wa_cond, axC_t, axC_f]
    simp -implicitDefEqProofs only [go_sem, simprocAttr, mkI, iV, mkQ, qV, fV, ofV, rV, mkR, res55]
    first | exact .app _ _ | exact ⟨.app _ _, rfl⟩ | exact .refl _ | exact ⟨.refl _, rfl⟩
  · have hc : ¬ cmpQ z 1 = 0 := by have : ¬ z = 1 := fun h => h0 (hok.2 h); grind
    simp only [h0, if_false]
    generalize cmpQ z 1 = cz at *
    clear hz hok
    refine sim_ex tok mixed Tryz.func55 rfl (by kernel_rfl) (by kernel_rfl) (by simp only [Tryz.ntmps55, List.size_toArray, List.length_cons, List.length_nil]; omega) ?_
    simp -implicitDefEqProofs only [go_sem, simprocAttr, mkI, iV, mkQ, qV, fV, ofV, rV, mkR]
    refine wl_callV _ (by simp -implicitDefEqProofs only [go_sem, simprocAttr, mkI, iV, mkQ, qV, fV, ofV, rV, mkR, wa_cond, axC_t, axC_f]) (c1 _) ?_
    simp -implicitDefEqProofs only [go_sem, simprocAttr, mkI, iV, mkQ, qV, fV, ofV, rV, mkR, wa_cond, axC_t, axC_f]
    refine wl_callV _ (by simp -implicitDefEqProofs only [go_sem, simprocAttr, mkI, iV, mkQ, qV, fV, ofV, rV, mkR, wa_cond, axC_t, axC_f]) (c2 _) ?_
    simp -implicitDefEqProofs only [go_sem, simprocAttr, mkI, iV, mkQ, qV, fV, ofV, rV, mkR, wa_cond, axC_t, axC_f]
    refine ax_quiet (by kernel_rfl) ?_
    simp -implicitDefEqProofs only [go_sem, simprocAttr, mkI, iV, mkQ, qV, fV, ofV, rV, mkR]
    refine wl_callV _ (by simp -implicitDefEqProofs only [go_sem, simprocAttr, mkI, iV, mkQ, qV, fV, ofV, rV, mkR]) (o1 _) ?_
    simp -implicitDefEqProofs only [go_sem, simprocAttr, mkI, iV, mkQ, qV, fV, ofV, rV, mkR]
    refine wl_callV _ (by simp -implicitDefEqProofs only [go_sem, simprocAttr, mkI, iV, mkQ, qV, fV, ofV, rV, mkR]) (o2 _) ?_
    simp -implicitDefEqProofs only [go_sem, simprocAttr, mkI, iV, mkQ, qV, fV, ofV, rV, mkR]
    refine wl_callV _ (by simp -implicitDefEqProofs only [go_sem, simprocAttr, mkI, iV, mkQ, qV, fV, ofV, rV, mkR]) (s1 _) ?_
    simp -implicitDefEqProofs only [go_sem, simprocAttr, mkI, iV, mkQ, qV, fV, ofV, rV, mkR]
    refine wl_callV _ (by simp -implicitDefEqProofs only [go_sem, simprocAttr, mkI, iV, mkQ, qV, fV, ofV, rV, mkR]) (o3 _) ?_
    simp -implicitDefEqProofs only [go_sem, simprocAttr, mkI, iV, mkQ, qV, fV, ofV, rV, mkR]
    refine wl_callV _ (by simp -implicitDefEqProofs only [go_sem, simprocAttr, mkI, iV, mkQ, qV, fV, ofV, rV, mkR, hc, wa_cond, axC_t, axC_f]) (o4 _) ?_
    simp -implicitDefEqProofs only [go_sem, simprocAttr, mkI, iV, mkQ, qV, fV, ofV, rV, mkR, hc, wa_cond, axC_t, axC_f]
    simp -implicitDefEqProofs only [go_sem, simprocAttr, mkI, iV, mkQ, qV, fV, ofV, rV, mkR, res55]
    first | exact .app _ _ | exact ⟨.app _ _, rfl⟩ | exact .refl _ | exact ⟨.refl _, rfl⟩
end Go.Proofs.YthhmkaikopdmjaaGreat
set_option linter.unusedSimpArgs false
set_option linter.unusedVariables false
set_option maxRecDepth 8000
namespace Go.Proofs.YthhmkaikopdmjaaGreat
open Go Go.Fw
theorem zero_agg (c : Rat) : (RR.of ⟨c, 0⟩).val = .agg #[.bool (decide (c.num < 0)), .string (bs (digB c.num.natAbs)), .string (bs (denB c.den)), .bool false, .string (bs []), .string (bs [])] := by
  have h := mkQ_zero
  unfold mkQ at h
  obtain ⟨h1, h2, h3⟩ := qV_inj.1 h
  unfold RR.of RR.val rV
  simp only [h1, h2, h3]
theorem none4 (H : Heap) : Sim Tryz.prog 47 #[] H (RR.of ⟨1, 0⟩).val H := by
  refine flat_ex rfl ?_
  have o1 := fun H => ofNR H (n := 1) (by decide) (by decide)
  rw [show ((1 : Int) : Rat) = 1 from rfl] at o1
  rw [zero_agg]
  refine sim_ex tok mixed Tryz.func47 rfl (by kernel_rfl) (by kernel_rfl) (by simp only [Tryz.ntmps47, List.size_toArray, List.length_cons, List.length_nil]; omega) ?_
  simp -implicitDefEqProofs only [go_sem, simprocAttr, mkI, iV, mkQ, qV, fV, ofV, rV, mkR]
  refine wl_callV _ (by simp -implicitDefEqProofs only [go_sem, simprocAttr, mkI, iV, mkQ, qV, fV, ofV, rV, mkR]) (o1 _) ?_
  simp -implicitDefEqProofs only [go_sem, simprocAttr, mkI, iV, mkQ, qV, fV, ofV, rV, mkR]
  simp -implicitDefEqProofs only [go_sem, simprocAttr, mkI, iV, mkQ, qV, fV, ofV, rV, mkR, res47]
  first | exact .app _ _ | exact ⟨.app _ _, rfl⟩ | exact .refl _ | exact ⟨.refl _, rfl⟩
theorem Then4 (H : Heap) {a b : RR} {k : Nat} (ha : a.le k) (hb : b.le k) (hk : k ≤ 20000) :
    Sim Tryz.prog 50 #[a.val, b.val] H (if a.err ≠ 0 ∨ b.err ≠ 0 then .tuple #[zeroR, .int .i64 1] else .tuple #[(RR.of (a.rot.thn b.rot)).val, .int .i64 0]) H := by
  refine flat_ex (by split <;> rfl) ?_
  have c1 := fun H => check4 H ha hk
  have c2 := fun H => check4 H hb hk
  have o1 := fun H => then4 H ha hb hk
  rw [RR.of_val] at o1 ⊢
  unfold zeroR
  unfold RR.val rV at c1 c2 o1 ⊢
  by_cases h1 : a.err = 0
  · by_cases h2 : b.err = 0
    · rw [if_neg (by simp [h1, h2])]
      refine sim_ex tok mixed Tryz.func50 rfl (by kernel_rfl) (by kernel_rfl) (by simp only [Tryz.ntmps50, List.size_toArray, List.length_cons, List.length_nil]; omega) ?_
      simp -implicitDefEqProofs only [go_sem, simprocAttr, mkI, iV, mkQ, qV, fV, ofV, rV, mkR]
      refine wl_callV _ (by simp -implicitDefEqProofs only [go_sem, simprocAttr, mkI, iV, mkQ, qV, fV, ofV, rV, mkR, h1, wa_cond, axC_t, axC_f]) (c1 _) ?_
      simp -implicitDefEqProofs only [go_sem, simprocAttr, mkI, iV, mkQ, qV, fV, ofV, rV, mkR, h1, wa_cond, axC_t, axC_f]
      refine wl_callV _ (by simp -implicitDefEqProofs only [go_sem, simprocAttr, mkI, iV, mkQ, qV, fV, ofV, rV, mkR, h2, wa_cond, axC_t, axC_f]) (c2 _) ?_
      simp -implicitDefEqProofs only [go_sem, simprocAttr, mkI, iV, mkQ, qV, fV, ofV, rV, mkR, h2, wa_cond, axC_t, axC_f]
      refine wl_callV _ (by simp -implicitDefEqProofs only [go_sem, simprocAttr, mkI, iV, mkQ, qV, fV, ofV, rV, mkR]) (o1 _) ?_
      simp -implicitDefEqProofs only [go_sem, simprocAttr, mkI, iV, mkQ, qV, fV, ofV, rV, mkR]
      simp -implicitDefEqProofs only [go_sem, simprocAttr, mkI, iV, mkQ, qV, fV, ofV, rV, mkR, res50]
      first | exact .app _ _ | exact ⟨.app _ _, rfl⟩ | exact .refl _ | exact ⟨.refl _, rfl⟩
    · rw [if_pos (.inr h2)]
      refine sim_ex tok mixed Tryz.func50 rfl (by kernel_rfl) (by kernel_rfl) (by simp only [Tryz.ntmps50, List.size_toArray, List.length_cons, List.length_nil]; omega) ?_
      simp -implicitDefEqProofs only [go_sem, simprocAttr, mkI, iV, mkQ, qV, fV, ofV, rV, mkR]
      refine wl_callV _ (by simp -implicitDefEqProofs only [go_sem, simprocAttr, mkI, iV, mkQ, qV, fV, ofV, rV, mkR, h1, wa_cond, axC_t, axC_f]) (c1 _) ?_
      simp -implicitDefEqProofs only [go_sem, simprocAttr, mkI, iV, mkQ, qV, fV, ofV, rV, mkR, h1, wa_cond, axC_t, axC_f]
      refine wl_callV _ (by simp -implicitDefEqProofs only [go_sem, simprocAttr, mkI, iV, mkQ, qV, fV, ofV, rV, mkR, h2, wa_cond, axC_t, axC_f]) (c2 _) ?_
      simp -implicitDefEqProofs only [go_sem, simprocAttr, mkI, iV, mkQ, qV, fV, ofV, rV, mkR, h2, wa_cond, axC_t, axC_f]
      simp -implicitDefEqProofs only [go_sem, simprocAttr, mkI, iV, mkQ, qV, fV, ofV, rV, mkR, res50]
      first | exact .app _ _ | exact ⟨.app _ _, rfl⟩ | exact .refl _ | exact ⟨.refl _, rfl⟩
  · rw [if_pos (.inl h1)]
    refine sim_ex tok mixed Tryz.func50 rfl (by kernel_rfl) (by kernel_rfl) (by simp only [Tryz.ntmps50, List.size_toArray, List.length_cons, List.length_nil]; omega) ?_
    simp -implicitDefEqProofs only [go_sem, simprocAttr, mkI, iV, mkQ, qV, fV, ofV, rV, mkR]
    refine wl_callV _ (by simp -implicitDefEqProofs only [go_sem, simprocAttr, mkI, iV, mkQ, qV, fV, ofV, rV, mkR, h1, wa_cond, axC_t, axC_f]) (c1 _) ?_
    simp -implicitDefEqProofs only [go_sem, simprocAttr, mkI, iV, mkQ, qV, fV, ofV, rV, mkR, h1, wa_cond, axC_t, axC_f]
    simp -implicitDefEqProofs only [go_sem, simprocAttr, mkI, iV, mkQ, qV, fV, ofV, rV, mkR, res50]
    first | exact .app _ _ | exact ⟨.app _ _, rfl⟩ | exact .refl _ | exact ⟨.refl _, rfl⟩
theorem Compare4 (H : Heap) {a b : RR} {k : Nat} (ha : a.le k) (hb : b.le k) (hk : k ≤ 19000) :
    Sim Tryz.prog 112 #[a.val, b.val] H (if a.err ≠ 0 ∨ b.err ≠ 0 then .tuple #[.int .i64 0, .int .i64 1] else .tuple #[.int .i64 (a.rot.cmp b.rot), .int .i64 0]) H := by
  refine flat_ex (by split <;> rfl) ?_
  have c1 := fun H => check4 H ha (by omega)
  have c2 := fun H => check4 H hb (by omega)
  by_cases h1 : a.err = 0
  · by_cases h2 : b.err = 0
    · rw [if_neg (by simp [h1, h2])]
      have o1 := fun H => compare4 H ha hb hk (RR.err_zero.1 h1).2 (RR.err_zero.1 h2).2
      generalize a.rot.cmp b.rot = z at *
      unfold RR.val rV at c1 c2 o1 ⊢
      refine sim_ex tok mixed Tryz.func112 rfl (by kernel_rfl) (by kernel_rfl) (by simp only [Tryz.ntmps112, List.size_toArray, List.length_cons, List.length_nil]; omega) ?_
      simp -implicitDefEqProofs only [go_sem, simprocAttr, mkI, iV, mkQ, qV, fV, ofV, rV, mkR]
      refine wl_callV _ (by simp -implicitDefEqProofs only [go_sem, simprocAttr, mkI, iV, mkQ, qV, fV, ofV, rV, mkR, h1, wa_cond, axC_t, axC_f]) (c1 _) ?_
      simp -implicitDefEqProofs only [go_sem, simprocAttr, mkI, iV, mkQ, qV, fV, ofV, rV, mkR, h1, wa_cond, axC_t, axC_f]
      refine wl_callV _ (by simp -implicitDefEqProofs only [go_sem, simprocAttr, mkI, iV, mkQ, qV, fV, ofV, rV, mkR, h2, wa_cond, axC_t, axC_f]) (c2 _) ?_
      simp -implicitDefEqProofs only [go_sem, simprocAttr, mkI, iV, mkQ, qV, fV, ofV, rV, mkR, h2, wa_cond, axC_t, axC_f]
      refine wl_callV _ (by simp -implicitDefEqProofs only [go_sem, simprocAttr, mkI, iV, mkQ, qV, fV, ofV, rV, mkR]) (o1 _) ?_
      simp -implicitDefEqProofs only [go_sem, simprocAttr, mkI, iV, mkQ, qV, fV, ofV, rV, mkR]
      simp -implicitDefEqProofs only [go_sem, simprocAttr, mkI, iV, mkQ, qV, fV, ofV, rV, mkR, res112]
      first | exact .app _ _ | exact ⟨.app _ _, rfl⟩ | exact .refl _ | exact ⟨.refl _, rfl⟩
    · rw [if_pos (.inr h2)]
      unfold RR.val rV at c1 c2 ⊢
      refine sim_ex tok mixed Tryz.func112 rfl (by kernel_rfl) (by kernel_rfl) (by simp only [Tryz.ntmps112, List.size_toArray, List.length_cons, List.length_nil]; omega) ?_
      simp -implicitDefEqProofs only [go_sem, simprocAttr, mkI, iV, mkQ, qV, fV, ofV, rV, mkR]
      refine wl_callV _ (by simp -implicitDefEqProofs only [go_sem, simprocAttr, mkI, iV, mkQ, qV, fV, ofV, rV, mkR, h1, wa_cond, axC_t, axC_f]) (c1 _) ?_
      simp -implicitDefEqProofs only [go_sem, simprocAttr, mkI, iV, mkQ, qV, fV, ofV, rV, mkR, h1, wa_cond, axC_t, axC_f]
      refine wl_callV _ (by simp -implicitDefEqProofs only [go_sem, simprocAttr, mkI, iV, mkQ, qV, fV, ofV, rV, mkR, h2, wa_cond, axC_t, axC_f]) (c2 _) ?_
      simp -implicitDefEqProofs only [go_sem, simprocAttr, mkI, iV, mkQ, qV, fV, ofV, rV, mkR, h2, wa_cond, axC_t, axC_f]
      simp -implicitDefEqProofs only [go_sem, simprocAttr, mkI, iV, mkQ, qV, fV, ofV, rV, mkR, res112]
      first | exact .app _ _ | exact ⟨.app _ _, rfl⟩ | exact .refl _ | exact ⟨.refl _, rfl⟩
  · rw [if_pos (.inl h1)]
    unfold RR.val rV at c1 c2 ⊢
    refine sim_ex tok mixed Tryz.func112 rfl (by kernel_rfl) (by kernel_rfl) (by simp only [Tryz.ntmps112, List.size_toArray, List.length_cons, List.length_nil]; omega) ?_
    simp -implicitDefEqProofs only [go_sem, simprocAttr, mkI, iV, mkQ, qV, fV, ofV, rV, mkR]
    refine wl_callV _ (by simp -implicitDefEqProofs only [go_sem, simprocAttr, mkI, iV, mkQ, qV, fV, ofV, rV, mkR, h1, wa_cond, axC_t, axC_f]) (c1 _) ?_
    simp -implicitDefEqProofs only [go_sem, simprocAttr, mkI, iV, mkQ, qV, fV, ofV, rV, mkR, h1, wa_cond, axC_t, axC_f]
    simp -implicitDefEqProofs only [go_sem, simprocAttr, mkI, iV, mkQ, qV, fV, ofV, rV, mkR, res112]
    first | exact .app _ _ | exact ⟨.app _ _, rfl⟩ | exact .refl _ | exact ⟨.refl _, rfl⟩
theorem Of4 (H : Heap) {v : Value} {t : Rat} {k : Nat} (hv : QV v t k) (hk : k ≤ 20000) : Sim Tryz.prog 51 #[v] H (RR.of (Rot.ofT t)).val H := by
  refine flat_ex rfl ?_
  have o1 := fun H => ofNR H (n := 1) (by decide) (by decide)
  rw [show ((1 : Int) : Rat) = 1 from rfl] at o1
  have o2 := fun H => mulRQ H hv hv (by omega) (by omega)
  have z1 := sz_one (k := 2) (by decide)
  have z2 := hv.sz.mul hv.sz
  have s1 := fun H => addRQ H z1.qv z2.qv (by omega) (by omega)
  have o3 := fun H => subRQ H z1.qv z2.qv (by omega) (by omega)
  have z3 := (z1.add z2).qv
  have z4 := (z1.sub z2).qv
  have o4 := fun H => overRQ H z4 z3 (by omega) (by omega)
  have z5 := (hv.sz.add hv.sz).qv
  have o5 := fun H => overRQ H z5 z3 (by omega) (by omega)
  have s2 := fun H => addRQ H hv hv (by omega) (by omega)
  obtain ⟨g, n, d, rfl, ht, h1, h2⟩ := hv
  rw [RR.of_val]
  unfold Rot.ofT
  clear z1 z2 z3 z4 z5 ht
  simp only
  generalize (1 - t * t) / (1 + t * t) = x at *
  generalize (t + t) / (1 + t * t) = y at *
  generalize 1 + t * t = al at *
  generalize 1 - t * t = mi at *
  generalize t + t = tw at *
  generalize t * t = sq at *
  unfold qV at o2 s2 ⊢
  refine sim_ex tok mixed Tryz.func51 rfl (by kernel_rfl) (by kernel_rfl) (by simp only [Tryz.ntmps51, List.size_toArray, List.length_cons, List.length_nil]; omega) ?_
  simp -implicitDefEqProofs only [go_sem, simprocAttr, mkI, iV, mkQ, qV, fV, ofV, rV, mkR]
  refine wl_callV _ (by simp -implicitDefEqProofs only [go_sem, simprocAttr, mkI, iV, mkQ, qV, fV, ofV, rV, mkR]) (o1 _) ?_
  simp -implicitDefEqProofs only [go_sem, simprocAttr, mkI, iV, mkQ, qV, fV, ofV, rV, mkR]
  refine wl_callV _ (by simp -implicitDefEqProofs only [go_sem, simprocAttr, mkI, iV, mkQ, qV, fV, ofV, rV, mkR]) (o2 _) ?_
  simp -implicitDefEqProofs only [go_sem, simprocAttr, mkI, iV, mkQ, qV, fV, ofV, rV, mkR]
  refine wl_callV _ (by simp -implicitDefEqProofs only [go_sem, simprocAttr, mkI, iV, mkQ, qV, fV, ofV, rV, mkR]) (s1 _) ?_
  simp -implicitDefEqProofs only [go_sem, simprocAttr, mkI, iV, mkQ, qV, fV, ofV, rV, mkR]
  refine ax_quiet (by kernel_rfl) ?_
  simp -implicitDefEqProofs only [go_sem, simprocAttr, mkI, iV, mkQ, qV, fV, ofV, rV, mkR]
  refine wl_callV _ (by simp -implicitDefEqProofs only [go_sem, simprocAttr, mkI, iV, mkQ, qV, fV, ofV, rV, mkR]) (o3 _) ?_
  simp -implicitDefEqProofs only [go_sem, simprocAttr, mkI, iV, mkQ, qV, fV, ofV, rV, mkR]
  refine wl_callV _ (by simp -implicitDefEqProofs only [go_sem, simprocAttr, mkI, iV, mkQ, qV, fV, ofV, rV, mkR]) (o4 _) ?_
  simp -implicitDefEqProofs only [go_sem, simprocAttr, mkI, iV, mkQ, qV, fV, ofV, rV, mkR]
  refine wl_callV _ (by simp -implicitDefEqProofs only [go_sem, simprocAttr, mkI, iV, mkQ, qV, fV, ofV, rV, mkR]) (s2 _) ?_
  simp -implicitDefEqProofs only [go_sem, simprocAttr, mkI, iV, mkQ, qV, fV, ofV, rV, mkR]
  refine wl_callV _ (by simp -implicitDefEqProofs only [go_sem, simprocAttr, mkI, iV, mkQ, qV, fV, ofV, rV, mkR]) (o5 _) ?_
  simp -implicitDefEqProofs only [go_sem, simprocAttr, mkI, iV, mkQ, qV, fV, ofV, rV, mkR]
  simp -implicitDefEqProofs only [go_sem, simprocAttr, mkI, iV, mkQ, qV, fV, ofV, rV, mkR, res51]
  first | exact .app _ _ | exact ⟨.app _ _, rfl⟩ | exact .refl _ | exact ⟨.refl _, rfl⟩
end Go.Proofs.YthhmkaikopdmjaaGreat
set_option linter.unusedSimpArgs false
set_option linter.unusedVariables false
set_option maxRecDepth 8000
namespace Go.Proofs.YthhmkaikopdmjaaGreat
open Go Go.Fw
theorem less4 (H : Heap) {a b : RR} {k : Nat} (ha : a.le k) (hb : b.le k) (hk : k ≤ 19000) : Sim Tryz.prog 57 #[a.val, b.val] H (.bool (decide (cmpS a b < 0))) H := by
  refine flat_ex rfl ?_
  obtain ⟨e, o1⟩ : ∃ e : Int, ∀ H, Sim Tryz.prog 112 #[a.val, b.val] H (.tuple #[.int .i64 (cmpS a b), .int .i64 e]) H := by
    unfold cmpS
    by_cases h : a.err ≠ 0 ∨ b.err ≠ 0
    · refine ⟨1, fun H => ?_⟩
      have := Compare4 H ha hb hk
      rw [if_pos h] at this ⊢
      exact this
    · refine ⟨0, fun H => ?_⟩
      have := Compare4 H ha hb hk
      rw [if_neg h] at this ⊢
      exact this
  generalize cmpS a b = z at *
  unfold RR.val rV at o1 ⊢
  refine sim_ex tok mixed Tryz.func57 rfl (by kernel_rfl) (by kernel_rfl) (by simp only [Tryz.ntmps57, List.size_toArray, List.length_cons, List.length_nil]; omega) ?_
  simp -implicitDefEqProofs only [go_sem, simprocAttr, mkI, iV, mkQ, qV, fV, ofV, rV, mkR]
  refine wl_callV _ (by simp -implicitDefEqProofs only [go_sem, simprocAttr, mkI, iV, mkQ, qV, fV, ofV, rV, mkR]) (o1 _) ?_
  simp -implicitDefEqProofs only [go_sem, simprocAttr, mkI, iV, mkQ, qV, fV, ofV, rV, mkR]
  simp -implicitDefEqProofs only [go_sem, simprocAttr, mkI, iV, mkQ, qV, fV, ofV, rV, mkR, res57]
  first | exact .app _ _ | exact ⟨.app _ _, rfl⟩ | exact .refl _ | exact ⟨.refl _, rfl⟩
theorem cmpS_swap (a b : RR) : (cmpS a b ≤ 0) ↔ ¬ cmpS b a < 0 := by
  unfold cmpS
  by_cases h : a.err ≠ 0 ∨ b.err ≠ 0
  · rw [if_pos h, if_pos h.symm]; omega
  · rw [if_neg h, if_neg (fun h2 => h h2.symm)]
    have := @Rot.cmp_pos a.rot b.rot
    constructor
    · intro h1 h2; have := this.2 h2; omega
    · intro h1; refine Classical.byContradiction fun h2 => h1 (this.1 (by omega))
theorem Check45 (H : Heap) {v : Value} {l : List RR} {k : Nat} (hv : RL H v l) (hle : ∀ r ∈ l, r.le k) (hk : k ≤ 19000) (hl : l.length ≤ 1000000) : Sim Tryz.prog 18 #[v] H (.int .i64 (chkR l)) H := by
  refine flat_ex rfl ?_
  have e1 := hv.len (tt := tt) tt22
  unfold chkR
  refine sim_ex tok mixed Tryz.func18 rfl (by kernel_rfl) (by kernel_rfl) (by simp only [Tryz.ntmps18, List.size_toArray, List.length_cons, List.length_nil]; omega) ?_
  by_cases h0 : l = []
  · rw [if_pos h0]
    have h1 : (l.length : Int) = 0 := by rw [h0]; rfl
    simp -implicitDefEqProofs only [go_sem, simprocAttr, wa_cond, axC_t, axC_f, e1, h1, res18]
    exact .refl _
  rw [if_neg h0]
  have hl0 := List.length_pos_iff.2 h0
  have h1 : ¬ (l.length : Int) = 0 := by omega
  by_cases h64 : 64 < l.length
  · rw [if_pos h64]
    have h2 : (64 : Int) < (l.length : Int) := by omega
    simp -implicitDefEqProofs only [go_sem, simprocAttr, wa_cond, axC_t, axC_f, e1, h1, h2, res18]
    exact .refl _
  rw [if_neg h64]
  have h2 : ¬ (64 : Int) < (l.length : Int) := by omega
  simp -implicitDefEqProofs only [go_sem, simprocAttr, wa_cond, axC_t, axC_f, e1, h1, h2]
  obtain ⟨b, i0, c, rfl, hA⟩ := hv.at h0
  refine ax_loopx (fun (i : Nat) s T => ∃ G : Heap, s 0 = .slice (some ⟨b, i0, none⟩) l.length c ∧ s 3 = .int .i64 (i : Nat) ∧ i ≤ l.length ∧ chkFrom none l = chkFrom (prevR l i) (l.drop i) ∧ T = H ++ G) (fun i => l.length - i) 0 ?_ ?_
  · refine ⟨[], ?_⟩
    simp -implicitDefEqProofs only [go_sem, simprocAttr]
    rfl
  rintro i s T ⟨G, s0, s3, hi, hch, rfl⟩
  simp -implicitDefEqProofs only [go_sem, simprocAttr, s0, s3, e1]
  refine ax_cond2 ?_
  simp only [ev_tmp, ev_const, ev_func, upd_at, put_some, put_none, bndB_bool, Nat.reduceEqDiff, if_true, if_false, ↓reduceIte, reduceCtorEq]
  refine ⟨fun hc0 => have hlt := of_decide_eq_true hc0; ?_, fun hc0 => have hlt := of_decide_eq_false hc0; ?_⟩
  · have hil : i < l.length := by omega
    have r1 := fun G => rd_more (hA.rdR hil) G
    have hc := fun H => check4 H (hle _ (List.getElem_mem hil)) (by omega)
    have hdrop := List.drop_eq_getElem_cons hil
    have hx := hle _ (List.getElem_mem hil)
    have hnext : prevR l (i + 1) = some l[i] := by unfold prevR; rw [if_neg (by omega), Nat.add_sub_cancel, List.getElem?_eq_getElem hil]
    rw [hdrop] at hch
    have hnn : (0 : Int) ≤ (i : Int) := by omega
    have w1 : IntKind.i64.wrap ((i : Int) + 1) = ((i + 1 : Nat) : Int) := by rw [w64 (by omega) (by omega)]; rfl
    unfold RR.cells at r1
    unfold RR.val rV at hc
    have hcmp := fun p (hp : RR.le p k) H => less4 H hp hx hk
    unfold RR.val rV at hcmp
    generalize hxx : l[i] = x at *
    simp -implicitDefEqProofs only [go_sem, simprocAttr, s0, s3, aIndexAddr, hlt, hnn, r1]
    refine wl_callV _ (by simp -implicitDefEqProofs only [go_sem, simprocAttr]) (hc _) ?_
    by_cases he : x.err = 0
    case neg =>
      have hch2 : chkFrom none l = x.err := by rw [hch]; unfold chkFrom; rw [if_pos he]
      rw [hch2]
      simp -implicitDefEqProofs only [go_sem, simprocAttr, wa_cond, axC_t, axC_f, he, res18]
      exact .app _ _
    have hch2 : chkFrom none l = if (match prevR l i with | some p => decide (cmpS x p ≤ 0) | none => false) = true then 8 else chkFrom (some x) (l.drop (i + 1)) := by
      rw [hch]; conv => lhs; unfold chkFrom
      rw [if_neg (by simpa using he)]
      rfl
    simp -implicitDefEqProofs only [go_sem, simprocAttr, wa_cond, axC_t, axC_f, he]
    refine ax_quiet (by kernel_rfl) ?_
    by_cases hi0 : i = 0
    · subst hi0
      have hi1 : ¬ (0 : Int) < ((0 : Nat) : Int) := by decide
      have e2 : prevR l 0 = none := rfl
      rw [e2] at hch2
      simp -implicitDefEqProofs only [go_sem, simprocAttr, wa_cond, axC_t, axC_f, s0, s3, hi1, w1]
      refine ⟨1, ⟨G, ?_⟩, by omega⟩
      rw [hch2, hnext]
      ((repeat' apply And.intro) <;> first | rfl | assumption | omega)
    · obtain ⟨j, rfl⟩ : ∃ j, i = j + 1 := ⟨i - 1, by omega⟩
      have hj : j < l.length := by omega
      have hi1 : (0 : Int) < ((j + 1 : Nat) : Int) := by omega
      have wj : IntKind.i64.wrap (((j + 1 : Nat) : Int) - 1) = (j : Int) := by rw [castS]; exact w64 (by omega) (by omega)
      have r2 := fun G => rd_more (hA.rdR hj) G
      have hp := hle _ (List.getElem_mem hj)
      have e2 : prevR l (j + 1) = some l[j] := by unfold prevR; rw [if_neg (by omega), Nat.add_sub_cancel, List.getElem?_eq_getElem hj]
      rw [e2] at hch2
      simp only at hch2
      unfold RR.cells at r2
      have hcm := hcmp _ hp
      generalize l[j] = p at *
      have hsw := cmpS_swap x p
      have hjn : (0 : Int) ≤ (j : Int) := by omega
      have hjl : (j : Int) < (l.length : Int) := by omega
      by_cases hle0 : cmpS x p ≤ 0
      · rw [if_pos (by simpa using hle0)] at hch2
        rw [hch2]
        rw [decide_eq_false (hsw.1 hle0)] at hcm
        simp -implicitDefEqProofs only [go_sem, simprocAttr, s0, s3, hi1, wj, aIndexAddr, hjn, hjl, hnn, hlt, r1, r2]
        refine wl_callV _ (by simp -implicitDefEqProofs only [go_sem, simprocAttr]) (hcm _) ?_
        simp -implicitDefEqProofs only [go_sem, simprocAttr, wa_cond, axC_t, axC_f, res18]
        exact .app _ _
      · rw [if_neg (by simpa using hle0)] at hch2
        rw [decide_eq_true (Classical.byContradiction fun h => hle0 (hsw.2 h))] at hcm
        simp -implicitDefEqProofs only [go_sem, simprocAttr, s0, s3, hi1, wj, aIndexAddr, hjn, hjl, hnn, hlt, r1, r2]
        refine wl_callV _ (by simp -implicitDefEqProofs only [go_sem, simprocAttr]) (hcm _) ?_
        simp -implicitDefEqProofs only [go_sem, simprocAttr, wa_cond, axC_t, axC_f, s0, s3, w1]
        refine ⟨j + 1 + 1, ⟨G, ?_⟩, by omega⟩
        rw [hch2, hnext]
        ((repeat' apply And.intro) <;> first | rfl | assumption | omega)
  · have hil : i = l.length := by omega
    subst hil
    rw [List.drop_length] at hch
    have : chkFrom none l = 0 := by rw [hch]; unfold chkFrom; rfl
    rw [this]
    simp -implicitDefEqProofs only [go_sem, simprocAttr, res18]
    exact .app _ _
def RR.long (r : RR) : Bool := decide (8 < r.n.length) || decide (8 < r.d.length) || decide (8 < r.n'.length) || decide (8 < r.d'.length)
theorem RR.long_le {r : RR} (h : RR.long r = false) : r.le 64 := by
  unfold RR.long at h
  simp only [Bool.or_eq_false_iff, decide_eq_false_iff_not] at h
  exact ⟨by omega, by omega, by omega, by omega⟩
theorem Long45 (H : Heap) (r : RR) : Sim Tryz.prog 42 #[r.val] H (.bool (RR.long r)) H := by
  refine flat_ex rfl ?_
  have c : ∀ n : Nat, ((8 : Int) < (n : Int)) ↔ 8 < n := fun n => by omega
  unfold RR.long RR.val rV
  by_cases h1 : 8 < r.n.length
  · rw [decide_eq_true h1]
    refine sim_ex tok mixed Tryz.func42 rfl (by kernel_rfl) (by kernel_rfl) (by simp only [Tryz.ntmps42, List.size_toArray, List.length_cons, List.length_nil]; omega) ?_
    simp -implicitDefEqProofs only [go_sem, simprocAttr, mkI, iV, mkQ, qV, fV, ofV, rV, mkR, aLen, c, h1, Bool.true_or]
    simp -implicitDefEqProofs only [go_sem, simprocAttr, mkI, iV, mkQ, qV, fV, ofV, rV, mkR, res42]
    first | exact .app _ _ | exact ⟨.app _ _, rfl⟩ | exact .refl _ | exact ⟨.refl _, rfl⟩
  rw [decide_eq_false h1]
  by_cases h2 : 8 < r.d.length
  · rw [decide_eq_true h2]
    refine sim_ex tok mixed Tryz.func42 rfl (by kernel_rfl) (by kernel_rfl) (by simp only [Tryz.ntmps42, List.size_toArray, List.length_cons, List.length_nil]; omega) ?_
    simp -implicitDefEqProofs only [go_sem, simprocAttr, mkI, iV, mkQ, qV, fV, ofV, rV, mkR, aLen, c, h1, h2, Bool.true_or, Bool.false_or]
    simp -implicitDefEqProofs only [go_sem, simprocAttr, mkI, iV, mkQ, qV, fV, ofV, rV, mkR, res42]
    first | exact .app _ _ | exact ⟨.app _ _, rfl⟩ | exact .refl _ | exact ⟨.refl _, rfl⟩
  rw [decide_eq_false h2]
  by_cases h3 : 8 < r.n'.length
  · rw [decide_eq_true h3]
    refine sim_ex tok mixed Tryz.func42 rfl (by kernel_rfl) (by kernel_rfl) (by simp only [Tryz.ntmps42, List.size_toArray, List.length_cons, List.length_nil]; omega) ?_
    simp -implicitDefEqProofs only [go_sem, simprocAttr, mkI, iV, mkQ, qV, fV, ofV, rV, mkR, aLen, c, h1, h2, h3, Bool.true_or, Bool.false_or]
    simp -implicitDefEqProofs only [go_sem, simprocAttr, mkI, iV, mkQ, qV, fV, ofV, rV, mkR, res42]
    first | exact .app _ _ | exact ⟨.app _ _, rfl⟩ | exact .refl _ | exact ⟨.refl _, rfl⟩
  rw [decide_eq_false h3]
  by_cases h4 : 8 < r.d'.length
  · rw [decide_eq_true h4]
    refine sim_ex tok mixed Tryz.func42 rfl (by kernel_rfl) (by kernel_rfl) (by simp only [Tryz.ntmps42, List.size_toArray, List.length_cons, List.length_nil]; omega) ?_
    simp -implicitDefEqProofs only [go_sem, simprocAttr, mkI, iV, mkQ, qV, fV, ofV, rV, mkR, aLen, c, h1, h2, h3, h4, Bool.true_or, Bool.false_or]
    simp -implicitDefEqProofs only [go_sem, simprocAttr, mkI, iV, mkQ, qV, fV, ofV, rV, mkR, res42]
    first | exact .app _ _ | exact ⟨.app _ _, rfl⟩ | exact .refl _ | exact ⟨.refl _, rfl⟩
  rw [decide_eq_false h4]
  refine sim_ex tok mixed Tryz.func42 rfl (by kernel_rfl) (by kernel_rfl) (by simp only [Tryz.ntmps42, List.size_toArray, List.length_cons, List.length_nil]; omega) ?_
  simp -implicitDefEqProofs only [go_sem, simprocAttr, mkI, iV, mkQ, qV, fV, ofV, rV, mkR, aLen, c, h1, h2, h3, h4, Bool.or_false]
  simp -implicitDefEqProofs only [go_sem, simprocAttr, mkI, iV, mkQ, qV, fV, ofV, rV, mkR, res42]
  first | exact .app _ _ | exact ⟨.app _ _, rfl⟩ | exact .refl _ | exact ⟨.refl _, rfl⟩
def lenBad (n : Nat) : Bool := decide (12 < n ∧ n < 31 ∨ 34 < n ∧ n < 63 ∨ 66 < n)
def greatB (l : List RR) : Bool := lenBad l.length || l.any RR.long
theorem Great45 (H : Heap) {v : Value} {l : List RR} (hv : RL H v l) : Sim Tryz.prog 41 #[v] H (.bool (greatB l)) H := by
  refine flat_ex rfl ?_
  have e1 := hv.len (tt := tt) tt22
  have c1 : ((12 : Int) < (l.length : Int)) ↔ 12 < l.length := by omega
  have c2 : ((l.length : Int) < 31) ↔ l.length < 31 := by omega
  have c3 : ((34 : Int) < (l.length : Int)) ↔ 34 < l.length := by omega
  have c4 : ((l.length : Int) < 63) ↔ l.length < 63 := by omega
  have c5 : ((66 : Int) < (l.length : Int)) ↔ 66 < l.length := by omega
  unfold greatB lenBad
  refine sim_ex tok mixed Tryz.func41 rfl (by kernel_rfl) (by kernel_rfl) (by simp only [Tryz.ntmps41, List.size_toArray, List.length_cons, List.length_nil]; omega) ?_
  by_cases h1 : 12 < l.length ∧ l.length < 31
  · rw [decide_eq_true (.inl h1)]
    simp -implicitDefEqProofs only [go_sem, simprocAttr, wa_cond, axC_t, axC_f, e1, c1, c2, h1.1, h1.2, Bool.true_or, res41]
    exact .refl _
  by_cases h2 : 34 < l.length ∧ l.length < 63
  · rw [decide_eq_true (.inr (.inl h2))]
    have d1 : 12 < l.length := by omega
    have d2 : ¬ l.length < 31 := by omega
    simp -implicitDefEqProofs only [go_sem, simprocAttr, wa_cond, axC_t, axC_f, e1, c1, c2, c3, c4, d1, d2, h2.1, h2.2, Bool.true_or, res41]
    exact .refl _
  by_cases h3 : 66 < l.length
  · rw [decide_eq_true (.inr (.inr h3))]
    have d1 : 12 < l.length := by omega
    have d2 : ¬ l.length < 31 := by omega
    have d3 : 34 < l.length := by omega
    have d4 : ¬ l.length < 63 := by omega
    simp -implicitDefEqProofs only [go_sem, simprocAttr, wa_cond, axC_t, axC_f, e1, c1, c2, c3, c4, c5, d1, d2, d3, d4, h3, Bool.true_or, res41]
    exact .refl _
  have hmain : ∀ (s : Slots) (T : Heap), s 0 = v → s 3 = .int .i64 (l.length : Nat) → T = H → True := fun _ _ _ _ _ => trivial
  clear hmain
  rw [decide_eq_false (by omega), Bool.false_or]
  have hcase : (¬ 12 < l.length ∧ ¬ 34 < l.length ∧ ¬ 66 < l.length) ∨ (12 < l.length ∧ ¬ l.length < 31 ∧ ¬ 34 < l.length ∧ ¬ 66 < l.length) ∨ (12 < l.length ∧ ¬ l.length < 31 ∧ 34 < l.length ∧ ¬ l.length < 63 ∧ ¬ 66 < l.length) := by omega
  apply shareK (M := fun s T => s 0 = v ∧ s 3 = .int .i64 (l.length : Nat) ∧ T = H)
  · intro hrest
    rcases hcase with ⟨d1, d2, d3⟩ | ⟨d1, d2, d3, d4⟩ | ⟨d1, d2, d3, d4, d5⟩
    · simp -implicitDefEqProofs only [go_sem, simprocAttr, e1, c1, c2, c3, c4, c5, d1, d2, d3]
      refine ax_mid _ ?_ hrest
      simp -implicitDefEqProofs only [go_sem, simprocAttr, wa_cond, axC_t, axC_f]
    · simp -implicitDefEqProofs only [go_sem, simprocAttr, e1, c1, c2, c3, c4, c5, d1, d2, d3, d4]
      refine ax_mid _ ?_ hrest
      simp -implicitDefEqProofs only [go_sem, simprocAttr, wa_cond, axC_t, axC_f]
    · simp -implicitDefEqProofs only [go_sem, simprocAttr, e1, c1, c2, c3, c4, c5, d1, d2, d3, d4, d5]
      refine ax_mid _ ?_ hrest
      simp -implicitDefEqProofs only [go_sem, simprocAttr, wa_cond, axC_t, axC_f]
  rintro s T ⟨s0, s3, rfl⟩
  simp -implicitDefEqProofs only [go_sem, simprocAttr, s0, s3]
  refine ax_loopx (fun (i : Nat) s T1 => s 0 = v ∧ s 3 = .int .i64 (l.length : Nat) ∧ s 4 = .int .i64 (i : Nat) ∧ i ≤ l.length ∧ l.any RR.long = (l.drop i).any RR.long ∧ T1 = T) (fun i => l.length - i) 0 ?_ ?_
  · simp -implicitDefEqProofs only [go_sem, simprocAttr, s0, s3]
  clear s0 s3
  rintro i s T1 ⟨s0, s3, s4, hi, ha, rfl⟩
  simp -implicitDefEqProofs only [go_sem, simprocAttr, s3, s4]
  refine ax_cond2 ?_
  simp only [ev_tmp, ev_const, ev_func, upd_at, put_some, put_none, bndB_bool, Nat.reduceEqDiff, if_true, if_false, ↓reduceIte, reduceCtorEq]
  refine ⟨fun hc0 => have hlt := of_decide_eq_true hc0; ?_, fun hc0 => have hlt := of_decide_eq_false hc0; ?_⟩
  · have hil : i < l.length := by omega
    obtain ⟨b, i0, c, rfl, hA⟩ := hv.at (fun h => by rw [h] at hil; simp at hil)
    have r1 := hA.rdR hil
    have o1 := fun H => Long45 H l[i]
    have hnn : (0 : Int) ≤ (i : Int) := by omega
    have hlt2 : (i : Int) < (l.length : Int) := by omega
    have w1 : IntKind.i64.wrap ((i : Int) + 1) = ((i + 1 : Nat) : Int) := by rw [w64 (by omega) (by omega)]; rfl
    rw [List.drop_eq_getElem_cons hil, List.any_cons] at ha
    generalize l[i] = x at *
    unfold RR.cells at r1
    unfold RR.val rV at o1
    simp -implicitDefEqProofs only [go_sem, simprocAttr, s0, s4, aIndexAddr, hnn, hlt2, r1]
    refine wl_callV _ (by simp -implicitDefEqProofs only [go_sem, simprocAttr]) (o1 _) ?_
    cases hx : RR.long x
    · rw [hx, Bool.false_or] at ha
      simp -implicitDefEqProofs only [go_sem, simprocAttr, wa_cond, axC_t, axC_f, s0, s3, s4, w1]
      refine ⟨i + 1, ?_, by omega⟩
      ((repeat' apply And.intro) <;> first | rfl | assumption | omega)
    · rw [hx, Bool.true_or] at ha
      rw [ha]
      simp -implicitDefEqProofs only [go_sem, simprocAttr, wa_cond, axC_t, axC_f, res41]
      exact .refl _
  · have : i = l.length := by omega
    subst this
    rw [List.drop_length] at ha
    rw [ha]
    simp -implicitDefEqProofs only [go_sem, simprocAttr, res41, List.any_nil]
    exact .refl _
end Go.Proofs.YthhmkaikopdmjaaGreat
set_option linter.unusedSimpArgs false
set_option linter.unusedVariables false
set_option maxRecDepth 8000
namespace Go.Proofs.YthhmkaikopdmjaaGreat
open Go Go.Fw
theorem cmpS_zero {a b : RR} (ha : a.err = 0) (hb : b.err = 0) : cmpS a b = 0 ↔ a = b := by
  obtain ⟨ea, oa⟩ := RR.err_zero.1 ha
  obtain ⟨eb, ob⟩ := RR.err_zero.1 hb
  rw [cmpS_ok ha hb, Rot.cmp_zero oa ob]
  refine ⟨fun h => ?_, fun h => by rw [h]⟩
  rw [ea, eb, h]
theorem find_law {l : List RR} {r : RR} (ho : Ord l) (hr : r.err = 0) {i : Nat} (hi : i < l.length) (h : l[i] = r) : i = cntLess l r := by
  have h1 : ¬ i < cntLess l r := fun h1 => by
    have := cntLess_below l r i h1 hi
    rw [h, (cmpS_zero hr hr).2 rfl] at this; omega
  refine Nat.le_antisymm ?_ (by omega)
  refine Classical.byContradiction fun h2 => ?_
  have hq : cntLess l r < l.length := by omega
  have h3 := cntLess_above ho hr (cntLess l r) (Nat.le_refl _) hq
  have h4 := List.pairwise_iff_getElem.1 ho.ord (cntLess l r) i hq hi (by omega)
  rw [cmpS_ok (ho.ok _ (List.getElem_mem hq)) hr] at h3
  rw [h] at h4
  exact h3 h4
theorem has_law {l : List RR} {r : RR} (ho : Ord l) (hr : r.err = 0) : hasR l r = true ↔ ∃ h : cntLess l r < l.length, l[cntLess l r] = r := by
  unfold hasR
  by_cases h : cntLess l r < l.length
  · rw [List.getElem?_eq_getElem h]
    simp only [decide_eq_true_eq]
    rw [cmpS_zero (ho.ok _ (List.getElem_mem h)) hr]
    exact ⟨fun h2 => ⟨h, h2⟩, fun ⟨_, h2⟩ => h2⟩
  · rw [List.getElem?_eq_none (by omega)]
    simp [h]
def befI (n q : Nat) : Nat := if q = 0 then n - 1 else q - 1
def findI (l : List RR) (r : RR) : Nat := if hasR l r = true then cntLess l r else befI l.length (cntLess l r)
theorem find45 (H : Heap) {v : Value} {l : List RR} {r : RR} {k : Nat} (hv : RL H v l) (hle : ∀ r ∈ l, r.le k) (hr : r.le k) (hk : k ≤ 19000) (ho : Ord l) (hre : r.err = 0) :
    Sim Tryz.prog 56 #[v, r.val] H (.tuple #[.int .i64 (findI l r : Nat), .bool (hasR l r)]) H := by
  refine flat_ex rfl ?_
  have e1 := hv.len (tt := tt) tt22
  have hl0 := List.length_pos_iff.2 ho.ne
  have hl64 := ho.len
  have hql := cntLess_le l r
  obtain ⟨b, i0, c, rfl, hA⟩ := hv.at ho.ne
  have a0 : IntKind.i64.wrap ((l.length : Int) - 1) = ((befI l.length 0 : Nat) : Int) := by rw [w64 (by omega) (by omega)]; unfold befI; rw [if_pos rfl]; omega
  have hlaw := has_law ho hre
  unfold RR.val rV
  refine sim_ex tok mixed Tryz.func56 rfl (by kernel_rfl) (by kernel_rfl) (by simp only [Tryz.ntmps56, List.size_toArray, List.length_cons, List.length_nil]; omega) ?_
  simp -implicitDefEqProofs only [go_sem, simprocAttr, e1, a0]
  refine ax_loopx (fun (i : Nat) s T => s 0 = .slice (some ⟨b, i0, none⟩) l.length c ∧ s 3 = .pointer (some ⟨H.length, 0, none⟩) ∧ s 6 = .int .i64 (befI l.length (min i (cntLess l r)) : Nat) ∧ s 7 = .int .i64 (i : Nat) ∧ i ≤ l.length ∧ (∀ j, j < i → ∀ h : j < l.length, l[j] ≠ r) ∧
    T = H ++ [⟨[.bool r.g, .string (bs r.n), .string (bs r.d), .bool r.g', .string (bs r.n'), .string (bs r.d')], 1, true⟩]) (fun i => l.length - i) 0 ?_ ?_
  · simp -implicitDefEqProofs only [go_sem, simprocAttr, Nat.zero_min]
    exact fun j hj => absurd hj (by omega)
  rintro i s T ⟨s0, s3, s6, s7, hi, hno, rfl⟩
  simp -implicitDefEqProofs only [go_sem, simprocAttr, s0, s7, e1]
  refine ax_cond2 ?_
  simp only [ev_tmp, ev_const, ev_func, upd_at, put_some, put_none, bndB_bool, Nat.reduceEqDiff, if_true, if_false, ↓reduceIte, reduceCtorEq]
  refine ⟨fun hc0 => have hlt := of_decide_eq_true hc0; ?_, fun hc0 => have hlt := of_decide_eq_false hc0; ?_⟩
  · have hil : i < l.length := by omega
    have r1 := rd_more (hA.rdR hil) [⟨[.bool r.g, .string (bs r.n), .string (bs r.d), .bool r.g', .string (bs r.n'), .string (bs r.d')], 1, true⟩]
    have hnn : (0 : Int) ≤ (i : Int) := by omega
    have w1 : IntKind.i64.wrap ((i : Int) + 1) = ((i + 1 : Nat) : Int) := by rw [w64 (by omega) (by omega)]; rfl
    have hq := eq26 l[i] r
    have hls := fun H => less4 H (hle _ (List.getElem_mem hil)) hr hk
    have hfl := fun h => find_law ho hre hil h
    have hxe := ho.ok _ (List.getElem_mem hil)
    have hbel := fun h => cntLess_below l r i h hil
    have habo := fun h => cntLess_above ho hre i h hil
    have hno2 : l[i] ≠ r → ∀ j, j < i + 1 → ∀ h : j < l.length, l[j] ≠ r := by
      intro h j hj hjl
      by_cases hji : j = i
      · subst hji; exact h
      · exact hno j (by omega) hjl
    have hyes : l[i] = r → hasR l r = true := fun h => hlaw.2 (by have := hfl h; subst this; exact ⟨hil, h⟩)
    generalize l[i] = x at *
    unfold RR.cells at r1
    unfold RR.val rV at hls
    simp -implicitDefEqProofs only [go_sem, simprocAttr]
    refine ax_quiet (by kernel_rfl) ?_
    by_cases hx : x = r
    · have hii := hfl hx
      have hh := hyes hx
      rw [decide_eq_true hx] at hq
      unfold findI
      rw [hh, if_pos rfl, ← hii]
      simp -implicitDefEqProofs only [go_sem, simprocAttr, wa_cond, axC_t, axC_f, s0, s3, s7, aIndexAddr, hnn, hlt, r1, hq, res56]
      first | exact .app _ _ | exact ⟨.app _ _, rfl⟩
    · rw [decide_eq_false hx] at hq
      have hno3 := hno2 hx
      simp -implicitDefEqProofs only [go_sem, simprocAttr, wa_cond, axC_t, axC_f, s0, s3, s7, aIndexAddr, hnn, hlt, r1, hq]
      refine ax_quiet (by kernel_rfl) ?_
      simp -implicitDefEqProofs only [go_sem, simprocAttr, s0, s3, s7, aIndexAddr, hnn, hlt, r1]
      refine wl_callV _ (by simp -implicitDefEqProofs only [go_sem, simprocAttr]) (hls _) ?_
      by_cases hiq : i < cntLess l r
      · rw [decide_eq_true (hbel hiq)]
        have e6 : (i : Int) = ((befI l.length (min (i + 1) (cntLess l r)) : Nat) : Int) := by rw [show min (i + 1) (cntLess l r) = i + 1 by omega]; unfold befI; rw [if_neg (by omega)]; omega
        simp -implicitDefEqProofs only [go_sem, simprocAttr, wa_cond, axC_t, axC_f, s0, s3, s7, w1]
        refine ⟨i + 1, ?_, by omega⟩
        rw [← e6]
        ((repeat' apply And.intro) <;> first | rfl | assumption | omega)
      · rw [decide_eq_false (habo (by omega))]
        have e6 : min (i + 1) (cntLess l r) = min i (cntLess l r) := by omega
        simp -implicitDefEqProofs only [go_sem, simprocAttr, wa_cond, axC_t, axC_f, s0, s3, s6, s7, w1]
        refine ⟨i + 1, ?_, by omega⟩
        rw [e6]
        ((repeat' apply And.intro) <;> first | rfl | assumption | omega)
  · have hil : i = l.length := by omega
    have hh : hasR l r = false := by
      rw [← Bool.not_eq_true, hlaw]
      rintro ⟨h, h2⟩
      exact hno _ (by omega) h h2
    unfold findI
    rw [hh, if_neg (by decide), show min i (cntLess l r) = cntLess l r by omega] at *
    simp -implicitDefEqProofs only [go_sem, simprocAttr, s6, res56]
    first | exact .app _ _ | exact ⟨.app _ _, rfl⟩
theorem findV_eq {l : List RR} {r : RR} (h : chk2 l r = 0) : findV l r = .tuple #[.int .i64 (findI l r : Nat), .bool (hasR l r), .int .i64 0] := by
  unfold findV findI
  rw [if_neg (by simpa using h)]
  have hc1 : chkR l = 0 := by
    unfold chk2 at h
    by_cases hc : chkR l = 0
    · exact hc
    · rw [if_neg hc] at h; omega
  have hl := List.length_pos_iff.2 (chk_ok hc1).ne
  have hq := cntLess_le l r
  by_cases h2 : hasR l r = true
  · rw [if_pos h2, if_pos h2, h2]
  · rw [if_neg h2, if_neg h2]
    have e : (cntLess l r + l.length - 1) % l.length = befI l.length (cntLess l r) := by
      unfold befI
      by_cases h3 : cntLess l r = 0
      · rw [if_pos h3, h3, Nat.zero_add, Nat.mod_eq_of_lt (by omega)]
      · rw [if_neg h3, show cntLess l r + l.length - 1 = (cntLess l r - 1) + l.length by omega, Nat.add_mod_right, Nat.mod_eq_of_lt (by omega)]
    rw [e]
    simp at h2
    rw [h2]
theorem Find45 (H : Heap) {v : Value} {l : List RR} {r : RR} {k : Nat} (hv : RL H v l) (hle : ∀ r ∈ l, r.le k) (hr : r.le k) (hk : k ≤ 19000) (hl : l.length ≤ 1000000) : Sim Tryz.prog 15 #[v, r.val] H (findV l r) H := by
  refine flat_ex (flat_find l r) ?_
  have o1 := fun G => Check45 (H ++ G) (El.app hv G) hle hk hl
  have o2 := fun H => check4 H hr (by omega)
  by_cases h1 : chkR l = 0
  case neg =>
    have e : findV l r = .tuple #[.int .i64 0, .bool false, .int .i64 1] := by
      unfold findV chk2; rw [if_neg h1]; rfl
    rw [e]
    generalize chkR l = c at *
    unfold RR.val rV
    refine sim_ex tok mixed Tryz.func15 rfl (by kernel_rfl) (by kernel_rfl) (by simp only [Tryz.ntmps15, List.size_toArray, List.length_cons, List.length_nil]; omega) ?_
    simp -implicitDefEqProofs only [go_sem, simprocAttr, mkI, iV, mkQ, qV, fV, ofV, rV, mkR]
    refine wl_callV _ (by simp -implicitDefEqProofs only [go_sem, simprocAttr, mkI, iV, mkQ, qV, fV, ofV, rV, mkR, h1, wa_cond, axC_t, axC_f]) (o1 _) ?_
    simp -implicitDefEqProofs only [go_sem, simprocAttr, mkI, iV, mkQ, qV, fV, ofV, rV, mkR, h1, wa_cond, axC_t, axC_f]
    simp -implicitDefEqProofs only [go_sem, simprocAttr, mkI, iV, mkQ, qV, fV, ofV, rV, mkR, res15]
    first | exact .app _ _ | exact ⟨.app _ _, rfl⟩ | exact .refl _ | exact ⟨.refl _, rfl⟩
  by_cases h2 : r.err = 0
  case neg =>
    have e : findV l r = .tuple #[.int .i64 0, .bool false, .int .i64 r.err] := by
      unfold findV chk2; rw [if_pos h1, if_pos h2]
    rw [e]
    generalize chkR l = c at *
    unfold RR.val rV at o2 ⊢
    refine sim_ex tok mixed Tryz.func15 rfl (by kernel_rfl) (by kernel_rfl) (by simp only [Tryz.ntmps15, List.size_toArray, List.length_cons, List.length_nil]; omega) ?_
    simp -implicitDefEqProofs only [go_sem, simprocAttr, mkI, iV, mkQ, qV, fV, ofV, rV, mkR]
    refine wl_callV _ (by simp -implicitDefEqProofs only [go_sem, simprocAttr, mkI, iV, mkQ, qV, fV, ofV, rV, mkR, h1, wa_cond, axC_t, axC_f]) (o1 _) ?_
    simp -implicitDefEqProofs only [go_sem, simprocAttr, mkI, iV, mkQ, qV, fV, ofV, rV, mkR, h1, wa_cond, axC_t, axC_f]
    refine wl_callV _ (by simp -implicitDefEqProofs only [go_sem, simprocAttr, mkI, iV, mkQ, qV, fV, ofV, rV, mkR, h2, wa_cond, axC_t, axC_f]) (o2 _) ?_
    simp -implicitDefEqProofs only [go_sem, simprocAttr, mkI, iV, mkQ, qV, fV, ofV, rV, mkR, h2, wa_cond, axC_t, axC_f]
    simp -implicitDefEqProofs only [go_sem, simprocAttr, mkI, iV, mkQ, qV, fV, ofV, rV, mkR, res15]
    first | exact .app _ _ | exact ⟨.app _ _, rfl⟩ | exact .refl _ | exact ⟨.refl _, rfl⟩
  have o3 := fun G => find45 (H ++ G) (El.app hv G) hle hr hk (chk_ok h1) h2
  rw [findV_eq (by unfold chk2; rw [if_pos h1]; exact h2)]
  generalize chkR l = c at *
  generalize findI l r = fi at *
  unfold RR.val rV at o2 o3 ⊢
  refine sim_ex tok mixed Tryz.func15 rfl (by kernel_rfl) (by kernel_rfl) (by simp only [Tryz.ntmps15, List.size_toArray, List.length_cons, List.length_nil]; omega) ?_
  simp -implicitDefEqProofs only [go_sem, simprocAttr, mkI, iV, mkQ, qV, fV, ofV, rV, mkR]
  refine wl_callV _ (by simp -implicitDefEqProofs only [go_sem, simprocAttr, mkI, iV, mkQ, qV, fV, ofV, rV, mkR, h1, wa_cond, axC_t, axC_f]) (o1 _) ?_
  simp -implicitDefEqProofs only [go_sem, simprocAttr, mkI, iV, mkQ, qV, fV, ofV, rV, mkR, h1, wa_cond, axC_t, axC_f]
  refine wl_callV _ (by simp -implicitDefEqProofs only [go_sem, simprocAttr, mkI, iV, mkQ, qV, fV, ofV, rV, mkR, h2, wa_cond, axC_t, axC_f]) (o2 _) ?_
  simp -implicitDefEqProofs only [go_sem, simprocAttr, mkI, iV, mkQ, qV, fV, ofV, rV, mkR, h2, wa_cond, axC_t, axC_f]
  refine wl_callV _ (by simp -implicitDefEqProofs only [go_sem, simprocAttr, mkI, iV, mkQ, qV, fV, ofV, rV, mkR]) (o3 _) ?_
  simp -implicitDefEqProofs only [go_sem, simprocAttr, mkI, iV, mkQ, qV, fV, ofV, rV, mkR]
  simp -implicitDefEqProofs only [go_sem, simprocAttr, mkI, iV, mkQ, qV, fV, ofV, rV, mkR, res15]
  first | exact .app _ _ | exact ⟨.app _ _, rfl⟩ | exact .refl _ | exact ⟨.refl _, rfl⟩
end Go.Proofs.YthhmkaikopdmjaaGreat
set_option linter.unusedSimpArgs false
set_option linter.unusedVariables false
set_option maxRecDepth 8000
namespace Go.Proofs.YthhmkaikopdmjaaGreat
open Go Go.Fw
theorem great45 (H : Heap) {v w : Value} {l m : List RR} (hv : RL H v l) (hw : RL H w m) (hm : m.length ≤ 1000000) : Sim Tryz.prog 10 #[v, w] H (.bool (greatB l || m.any RR.long)) H := by
  have o1 := Great45 H hv
  have o2 := containsFuncR H (g := 42) (cap := #[]) (p := RR.long) hw hm (fun x _ => Long45 H x)
  generalize greatB l = g at *
  generalize m.any RR.long = g' at *
  refine sim_of_ax tok mixed Tryz.func10 rfl (by kernel_rfl) (by kernel_rfl) (by simp only [Tryz.ntmps10, List.size_toArray, List.length_cons, List.length_nil]; omega) ?_
  simp -implicitDefEqProofs only [go_sem, simprocAttr]
  refine wl_callV _ (by simp -implicitDefEqProofs only [go_sem, simprocAttr]) o1 ?_
  cases g
  · simp -implicitDefEqProofs only [go_sem, simprocAttr]
    refine wl_callV _ (by simp -implicitDefEqProofs only [go_sem, simprocAttr]) o2 ?_
    simp -implicitDefEqProofs only [go_sem, simprocAttr, res10, Bool.false_or]
  · simp -implicitDefEqProofs only [go_sem, simprocAttr, res10, Bool.true_or]
theorem any_long {m : List RR} (h : m.any RR.long = false) : ∀ r ∈ m, r.le 64 := fun r hr => RR.long_le (by
  rw [← Bool.not_eq_true, List.any_eq_true] at h
  rw [← Bool.not_eq_true]
  exact fun hx => h ⟨r, hr, hx⟩)
theorem great_le {l : List RR} (h : greatB l = false) : (∀ r ∈ l, r.le 64) ∧ lenBad l.length = false := by
  unfold greatB at h
  rw [Bool.or_eq_false_iff] at h
  exact ⟨any_long h.2, h.1⟩
end Go.Proofs.YthhmkaikopdmjaaGreat
set_option linter.unusedSimpArgs false
set_option linter.unusedVariables false
set_option maxRecDepth 8000
namespace Go.Proofs.YthhmkaikopdmjaaGreat
open Go Go.Fw
def turnN : Nat → Rot | 0 => ⟨1, 0⟩ | j + 1 => (turnN j).thn ⟨0, 1⟩
def refTo (k j i : Nat) : List Rot := (List.range i).map fun i => (tanL k i).thn (turnN j)
def refL (k : Nat) : Nat → List Rot | 0 => [] | j + 1 => refL k j ++ refTo k j k
theorem refTo_len (k j i : Nat) : (refTo k j i).length = i := by simp [refTo]
theorem refL_len (k j : Nat) : (refL k j).length = j * k := by
  induction j with
  | zero => simp [refL]
  | succ j ih => unfold refL; rw [List.length_append, ih, refTo_len, Nat.add_mul]; omega
theorem refTo_succ (k j i : Nat) : refTo k j (i + 1) = refTo k j i ++ [(tanL k i).thn (turnN j)] := by simp [refTo, List.range_succ]
theorem ref_eq : ∀ k : Fin 17, 0 < k.1 → (refL k.1 4).map RR.of = listR k.1 := by decide +kernel
theorem turn_sz : ∀ j : Fin 5, (turnN j.1).c.num.natAbs < 4 ∧ (turnN j.1).c.den < 4 ∧ (turnN j.1).s.num.natAbs < 4 ∧ (turnN j.1).s.den < 4 ∧ (turnN j.1).ok := by decide +kernel
theorem turnSz {j : Nat} (h : j ≤ 4) : (turnN j).Sz 2 ∧ (turnN j).ok := by
  obtain ⟨h1, h2, h3, h4, h5⟩ := turn_sz ⟨j, by omega⟩
  exact ⟨⟨⟨h1, h2⟩, ⟨h3, h4⟩⟩, h5⟩
theorem List45_bad (H : Heap) {k : Int} (h : k < 1 ∨ 16 < k) (h1 : -9223372036854775808 ≤ k) (h2 : k < 9223372036854775808) :
    ∃ w H', Sim Tryz.prog 13 #[.int .i64 k] H w H' ∧ Ext H H' ∧ ∃ b, H.length ≤ b ∧ w = .tuple #[.slice (some ⟨b, 0, none⟩) 0 0, .int .i64 2] ∧ OwnR H' b [] := by
  have hown : OwnR (H ++ [⟨[], 6, true⟩]) H.length [] := OwnR.new H []
  refine sim_ex tok mixed Tryz.func13 rfl (by kernel_rfl) (by kernel_rfl) (by simp only [Tryz.ntmps13, List.size_toArray, List.length_cons, List.length_nil]; omega) ?_
  by_cases c1 : k < 1
  · simp -implicitDefEqProofs only [go_sem, simprocAttr, wa_cond, axC_t, axC_f, build22_0, c1, res13]
    exact ⟨.app _ _, H.length, Nat.le_refl _, rfl, hown⟩
  have c2 : 16 < k := by omega
  by_cases c3 : 64 < IntKind.i64.wrap (4 * k)
  · simp -implicitDefEqProofs only [go_sem, simprocAttr, wa_cond, axC_t, axC_f, build22_0, c1, c3, res13]
    exact ⟨.app _ _, H.length, Nat.le_refl _, rfl, hown⟩
  have c4 : 64 < k := by
    refine Classical.byContradiction fun hn => ?_
    rw [w64 (by omega) (by omega)] at c3
    omega
  simp -implicitDefEqProofs only [go_sem, simprocAttr, wa_cond, axC_t, axC_f, build22_0, c1, c3, c4, res13]
  exact ⟨.app _ _, H.length, Nat.le_refl _, rfl, hown⟩
theorem wr_all {T : Heap} {p : Nat} {cs new : List Value} (h : T[p]? = some ⟨cs, 1, true⟩) (hl : new.length = cs.length) (hc : allC new = true) : wr T p 0 new = some (T.set p ⟨new, 1, true⟩) := by
  rw [wr_eq, h]
  simp only
  rw [if_pos ⟨trivial, by rw [hl]; omega, hc⟩]
  congr 3
  unfold splice
  simp [hl]
theorem rd_all {T : Heap} {p : Nat} {cs : List Value} (h : T[p]? = some ⟨cs, 1, true⟩) {n : Nat} (hn : cs.length = n) : rd T p 0 n = some cs := by
  subst hn; exact rd_whole h (show 0 < 1 by decide)
theorem quarter_cells : (RR.of ⟨0, 1⟩).cells = [.bool false, .string (bs []), .string (bs []), .bool (decide ((1 : Rat).num < 0)), .string (bs (digB (1 : Rat).num.natAbs)), .string (bs (denB (1 : Rat).den))] := by
  have h := mkQ_zero
  unfold mkQ at h
  obtain ⟨h1, h2, h3⟩ := qV_inj.1 h
  unfold RR.of RR.cells
  simp only [h1, h2, h3]
theorem keep_blk {T : Heap} {p b : Nat} {B D : Blk} (h : T[p]? = some B) (hne : p ≠ b) (G N : Heap) : ((T ++ G).set b D ++ N)[p]? = some B := by
  have hp := (List.getElem?_eq_some_iff.1 h).1
  rw [List.getElem?_append_left (by simp; omega), List.getElem?_set_ne (Ne.symm hne), List.getElem?_append_left hp, h]
theorem own_ne {T : Heap} {p b : Nat} {l : List RR} {cs : List Value} (h : T[p]? = some ⟨cs, 1, true⟩) (ho : OwnR T b l) : p ≠ b := by
  rintro rfl
  have := ho.blk
  rw [h] at this
  injection this with this
  injection this with _ h2 _
  omega
theorem List45 (H : Heap) {k : Nat} (h0 : 0 < k) (h16 : k ≤ 16) : ∃ w H', Sim Tryz.prog 13 #[.int .i64 (k : Nat)] H w H' ∧ Ext H H' ∧ ∃ b, H.length ≤ b ∧ w = .tuple #[.slice (some ⟨b, 0, none⟩) (4 * k) 0, .int .i64 0] ∧ OwnR H' b ((refL k 4).map RR.of) := by
  have c1 : ¬ (k : Int) < 1 := by omega
  have c2 : IntKind.i64.wrap (4 * (k : Int)) = ((4 * k : Nat) : Int) := by rw [w64 (by omega) (by omega)]; omega
  have c3 : ¬ (64 : Int) < ((4 * k : Nat) : Int) := by omega
  have c4 : ¬ (64 : Int) < (k : Int) := by omega
  have oN := fun H => none4 H
  have o1 := fun H => ofNR H (n := 1) (by decide) (by decide)
  rw [show ((1 : Int) : Rat) = 1 from rfl] at o1
  have hqc := quarter_cells
  have ht0 : RR.of ⟨1, 0⟩ = RR.of (turnN 0) := rfl
  rw [ht0] at oN
  unfold RR.val rV at oN
  refine sim_ex tok mixed Tryz.func13 rfl (by kernel_rfl) (by kernel_rfl) (by simp only [Tryz.ntmps13, List.size_toArray, List.length_cons, List.length_nil]; omega) ?_
  simp -implicitDefEqProofs only [go_sem, simprocAttr, wa_cond, axC_t, axC_f, build22_0, c1, c2, c3, c4]
  refine wl_callV _ (by simp -implicitDefEqProofs only [go_sem, simprocAttr, mkI, iV, mkQ, qV, fV, ofV, rV, mkR]) (oN _) ?_
  simp -implicitDefEqProofs only [go_sem, simprocAttr, mkI, iV, mkQ, qV, fV, ofV, rV, mkR]
  refine wl_callV _ (by simp -implicitDefEqProofs only [go_sem, simprocAttr, mkI, iV, mkQ, qV, fV, ofV, rV, mkR]) (o1 _) ?_
  simp -implicitDefEqProofs only [go_sem, simprocAttr, mkI, iV, mkQ, qV, fV, ofV, rV, mkR]
  rw [← hqc]
  clear hqc oN o1 ht0
  have hown0 : OwnR (H ++ [(⟨[], 6, true⟩ : Blk), ⟨(RR.of (turnN 0)).cells, 1, true⟩, ⟨(RR.of ⟨0, 1⟩).cells, 1, true⟩]) H.length (([] : List Rot).map RR.of) := by
    have := Own.app (OwnR.new H []) [(⟨(RR.of (turnN 0)).cells, 1, true⟩ : Blk), ⟨(RR.of ⟨0, 1⟩).cells, 1, true⟩]
    unfold OwnR
    simpa using this
  have hc1 : (H ++ [(⟨[], 6, true⟩ : Blk), ⟨(RR.of (turnN 0)).cells, 1, true⟩, ⟨(RR.of ⟨0, 1⟩).cells, 1, true⟩])[H.length + 1]? = some ⟨(RR.of (turnN 0)).cells, 1, true⟩ := by rw [List.getElem?_append_right (by omega)]; simp
  have hc2 : (H ++ [(⟨[], 6, true⟩ : Blk), ⟨(RR.of (turnN 0)).cells, 1, true⟩, ⟨(RR.of ⟨0, 1⟩).cells, 1, true⟩])[H.length + 2]? = some ⟨(RR.of ⟨0, 1⟩).cells, 1, true⟩ := by rw [List.getElem?_append_right (by omega)]; simp
  have hE0 : Ext H (H ++ [(⟨[], 6, true⟩ : Blk), ⟨(RR.of (turnN 0)).cells, 1, true⟩, ⟨(RR.of ⟨0, 1⟩).cells, 1, true⟩]) := .app _ _
  unfold RR.cells at hown0 hc1 hc2 hE0 ⊢
  generalize H ++ [(⟨[], 6, true⟩ : Blk), ⟨[.bool (RR.of (turnN 0)).g, .string (bs (RR.of (turnN 0)).n), .string (bs (RR.of (turnN 0)).d), .bool (RR.of (turnN 0)).g', .string (bs (RR.of (turnN 0)).n'), .string (bs (RR.of (turnN 0)).d')], 1, true⟩, ⟨[.bool (RR.of ⟨0, 1⟩).g, .string (bs (RR.of ⟨0, 1⟩).n), .string (bs (RR.of ⟨0, 1⟩).d), .bool (RR.of ⟨0, 1⟩).g', .string (bs (RR.of ⟨0, 1⟩).n'), .string (bs (RR.of ⟨0, 1⟩).d')], 1, true⟩] = T0 at *
  refine ax_midl (fun s T => ∃ b, H.length ≤ b ∧ s 4 = .slice (some ⟨b, 0, none⟩) (4 * k) 0 ∧ OwnR T b ((refL k 4).map RR.of) ∧ Ext H T) ?_ ?_
  · refine ax_loopx (fun (j : Nat) s T => ∃ b, H.length ≤ b ∧ s 0 = .int .i64 (k : Nat) ∧ s 4 = .slice (some ⟨b, 0, none⟩) (j * k) 0 ∧ s 5 = .pointer (some ⟨H.length + 1, 0, none⟩) ∧ s 6 = .pointer (some ⟨H.length + 2, 0, none⟩) ∧ s 7 = .int .i64 (j : Nat) ∧ j ≤ 4 ∧
      OwnR T b ((refL k j).map RR.of) ∧ T[H.length + 1]? = some ⟨(RR.of (turnN j)).cells, 1, true⟩ ∧ T[H.length + 2]? = some ⟨(RR.of ⟨0, 1⟩).cells, 1, true⟩ ∧ Ext H T) (fun j => 4 - j) 0 ?_ ?_
    · refine ⟨H.length, Nat.le_refl _, ?_⟩
      simp -implicitDefEqProofs only [go_sem, simprocAttr, Nat.zero_mul]
      exact ⟨hown0, hc1, hc2, hE0⟩
    clear hown0 hc1 hc2 hE0
    rintro j s T ⟨b, hb, s0, s4, s5, s6, s7, hj, hown, hp5, hp6, hE⟩
    simp -implicitDefEqProofs only [go_sem, simprocAttr, s7]
    refine ax_cond2 ?_
    simp only [ev_tmp, ev_const, ev_func, upd_at, put_some, put_none, bndB_bool, Nat.reduceEqDiff, if_true, if_false, ↓reduceIte, reduceCtorEq]
    refine ⟨fun hc0 => have hlt := of_decide_eq_true hc0; ?_, fun hc0 => have hlt := of_decide_eq_false hc0; ?_⟩
    · have hj4 : j < 4 := by omega
      obtain ⟨tsz, tok⟩ := turnSz (j := j) (by omega)
      have hte : (RR.of (turnN j)).err = 0 := by rw [RR.err_of, if_pos tok]
      have hlen := refL_len k j
      have hjk : j * k ≤ 4 * 16 := Nat.mul_le_mul (by omega) h16
      simp -implicitDefEqProofs only [go_sem, simprocAttr]
      refine ax_midl (fun s T => ∃ b, H.length ≤ b ∧ s 0 = .int .i64 (k : Nat) ∧ s 4 = .slice (some ⟨b, 0, none⟩) ((j + 1) * k) 0 ∧ s 5 = .pointer (some ⟨H.length + 1, 0, none⟩) ∧ s 6 = .pointer (some ⟨H.length + 2, 0, none⟩) ∧ s 7 = .int .i64 (j : Nat) ∧
        OwnR T b ((refL k (j + 1)).map RR.of) ∧ T[H.length + 1]? = some ⟨(RR.of (turnN j)).cells, 1, true⟩ ∧ T[H.length + 2]? = some ⟨(RR.of ⟨0, 1⟩).cells, 1, true⟩ ∧ Ext H T) ?_ ?_
      · refine ax_loopx (fun (i : Nat) s T => ∃ b, H.length ≤ b ∧ s 0 = .int .i64 (k : Nat) ∧ s 4 = .slice (some ⟨b, 0, none⟩) (j * k + i) 0 ∧ s 5 = .pointer (some ⟨H.length + 1, 0, none⟩) ∧ s 6 = .pointer (some ⟨H.length + 2, 0, none⟩) ∧ s 7 = .int .i64 (j : Nat) ∧ s 8 = .int .i64 (i : Nat) ∧ i ≤ k ∧
          OwnR T b ((refL k j ++ refTo k j i).map RR.of) ∧ T[H.length + 1]? = some ⟨(RR.of (turnN j)).cells, 1, true⟩ ∧ T[H.length + 2]? = some ⟨(RR.of ⟨0, 1⟩).cells, 1, true⟩ ∧ Ext H T) (fun i => k - i) 0 ?_ ?_
        · refine ⟨b, hb, ?_⟩
          simp -implicitDefEqProofs only [go_sem, simprocAttr, s0, s4, s5, s6, s7]
          refine ⟨?_, hp5, hp6, hE⟩
          simpa [refTo] using hown
        clear s0 s4 s5 s6 s7 hown hp5 hp6 hE hb b
        rintro i s T ⟨b, hb, s0, s4, s5, s6, s7, s8, hi, hown, hp5, hp6, hE⟩
        simp -implicitDefEqProofs only [go_sem, simprocAttr, s0, s8]
        refine ax_cond2 ?_
        simp only [ev_tmp, ev_const, ev_func, upd_at, put_some, put_none, bndB_bool, Nat.reduceEqDiff, if_true, if_false, ↓reduceIte, reduceCtorEq]
        refine ⟨fun hc0 => have hlti := of_decide_eq_true hc0; ?_, fun hc0 => have hlti := of_decide_eq_false hc0; ?_⟩
        · have hik : i < k := by omega
          have q1 := fun H => ratioRI H (n := (i : Int)) (d := (k : Int)) (by omega) (by omega) (by omega) (by omega)
          simp only [show ¬ (k : Int) = 0 by omega, if_false] at q1
          have hsz : Fw.Sz (Rat.divInt (i : Int) (k : Int)) 6 := by
            rw [divInt_pos (by omega)]
            exact Sz.of (by omega) (by omega) (by omega)
          have q2 := fun H => Of4 H hsz.qv (by omega)
          have et : Rot.ofT (Rat.divInt (i : Int) (k : Int)) = tanL k i := rfl
          rw [et] at q2
          have zt := (tanL_sz h0 h16 (i := i) (by omega)).le
          have hoe : (RR.of (tanL k i)).err = 0 := by rw [RR.err_of, if_pos (show (tanL k i).ok from Rot.ofT_ok _)]
          have q3 := fun H => Then4 H zt (tsz.le.mono (show 2 + 7 ≤ 60 + 7 by omega)) (by decide)
          rw [hoe, hte, RR.of_rot, RR.of_rot] at q3
          simp only [ne_eq, not_true_eq_false, or_self, if_false] at q3
          have w1 : IntKind.i64.wrap ((i : Int) + 1) = ((i + 1 : Nat) : Int) := by rw [w64 (by omega) (by omega)]; rfl
          have hll : ((refL k j ++ refTo k j i).map RR.of).length = j * k + i := by rw [List.length_map, List.length_append, hlen, refTo_len]
          have hnext : (refL k j ++ refTo k j (i + 1)).map RR.of = (refL k j ++ refTo k j i).map RR.of ++ [RR.of ((tanL k i).thn (turnN j))] := by rw [refTo_succ]; simp
          have hne5 := own_ne hp5 hown
          have hne6 := own_ne hp6 hown
          generalize Rat.divInt (i : Int) (k : Int) = q at *
          generalize (tanL k i).thn (turnN j) = xr at *
          generalize RR.of (tanL k i) = xt at *
          generalize htj : RR.of (turnN j) = xj at *
          obtain ⟨cQ, hcQ⟩ : ∃ c : Blk, c = ⟨[.bool (decide (q.num < 0)), .string (bs (digB q.num.natAbs)), .string (bs (denB q.den))], 1, true⟩ := ⟨_, rfl⟩
          obtain ⟨cR, hcR⟩ : ∃ c : Blk, c = ⟨(RR.of xr).cells, 1, true⟩ := ⟨_, rfl⟩
          have r5 := fun G => rd_more (rd_all hp5 (n := 6) rfl) G
          obtain ⟨T', happ, ho', hT'⟩ := append_R (T := T ++ [cQ, cR]) (RR.of xr) (Own.app hown [cQ, cR]) (by rw [hll]; omega)
          rw [hll] at happ
          simp only [List.append_assoc, List.cons_append, List.nil_append, List.length_append, List.length_cons, List.length_nil, Nat.zero_add] at happ ho' hT'
          have hE2 : Ext H T' := by
            rw [hT']
            exact ((hE.trans (.app _ _)).set hb _).trans (.app _ _)
          have hp5' : T'[H.length + 1]? = some ⟨xj.cells, 1, true⟩ := by rw [hT']; exact keep_blk hp5 hne5 _ _
          have hp6' : T'[H.length + 2]? = some ⟨(RR.of ⟨0, 1⟩).cells, 1, true⟩ := by rw [hT']; exact keep_blk hp6 hne6 _ _
          have hTl := hE.len
          have hrow := fun T => row1 T (RR.of xr)
          subst hcQ hcR
          clear hT' hown hp5 hp6 hE hsz zt hoe
          rw [← hnext] at ho'
          generalize RR.of xr = yr at *
          unfold RR.cells at happ r5
          unfold RR.val rV at q2 q3
          unfold RR.val rV RR.cells at hrow
          simp -implicitDefEqProofs only [go_sem, simprocAttr, s0, s8]
          refine wl_callV _ (by simp -implicitDefEqProofs only [go_sem, simprocAttr, mkI, iV, mkQ, qV, fV, ofV, rV, mkR, s0, s8]) (q1 _) ?_
          simp -implicitDefEqProofs only [go_sem, simprocAttr, mkI, iV, mkQ, qV, fV, ofV, rV, mkR, s0, s8]
          refine ax_quiet (by kernel_rfl) ?_
          simp -implicitDefEqProofs only [go_sem, simprocAttr, mkI, iV, mkQ, qV, fV, ofV, rV, mkR]
          refine wl_callV _ (by simp -implicitDefEqProofs only [go_sem, simprocAttr, mkI, iV, mkQ, qV, fV, ofV, rV, mkR, s5, r5]) (q2 _) ?_
          simp -implicitDefEqProofs only [go_sem, simprocAttr, mkI, iV, mkQ, qV, fV, ofV, rV, mkR, s5, r5]
          refine wl_callV _ (by simp -implicitDefEqProofs only [go_sem, simprocAttr, mkI, iV, mkQ, qV, fV, ofV, rV, mkR]) (q3 _) ?_
          simp -implicitDefEqProofs only [go_sem, simprocAttr, mkI, iV, mkQ, qV, fV, ofV, rV, mkR]
          simp -implicitDefEqProofs only [go_sem, simprocAttr, mkI, iV, mkQ, qV, fV, ofV, rV, mkR, hrow, s4, happ, s0, s5, s6, s7, s8, w1]
          refine ⟨i + 1, ⟨T.length + 2 + 1, by omega, ?_⟩, by omega⟩
          ((repeat' apply And.intro) <;> first | rfl | assumption | omega)
        · have hik : i = k := by omega
          subst hik
          simp -implicitDefEqProofs only [go_sem, simprocAttr, s0, s4, s5, s6, s7]
          rw [Nat.add_mul, Nat.one_mul]
          refine ⟨b, hb, ?_⟩
          ((repeat' apply And.intro) <;> first | rfl | assumption | omega)
      clear s0 s4 s5 s6 s7 hown hp5 hp6 hE hb b
      rintro s T ⟨b, hb, s0, s4, s5, s6, s7, hown, hp5, hp6, hE⟩
      have hq0 : (Rot.mk 0 1).Sz 2 := ⟨⟨by decide, by decide⟩, sz_one (by decide)⟩
      have hqe : (RR.of ⟨0, 1⟩).err = 0 := by decide +kernel
      have q3 := fun H => Then4 H tsz.le hq0.le (by decide)
      rw [hte, hqe, RR.of_rot, RR.of_rot] at q3
      simp only [ne_eq, not_true_eq_false, or_self, if_false] at q3
      have htn : (turnN j).thn ⟨0, 1⟩ = turnN (j + 1) := rfl
      rw [htn] at q3
      have w1 : IntKind.i64.wrap ((j : Int) + 1) = ((j + 1 : Nat) : Int) := by rw [w64 (by omega) (by omega)]; rfl
      have r5 := rd_all hp5 (n := 6) rfl
      have r6 := rd_all hp6 (n := 6) rfl
      have hwr := wr_all hp5 (new := (RR.of (turnN (j + 1))).cells) rfl rfl
      have hne5 := own_ne hp5 hown
      have hown' : OwnR (T.set (H.length + 1) ⟨(RR.of (turnN (j + 1))).cells, 1, true⟩) b ((refL k (j + 1)).map RR.of) := Own.other hown hne5 _
      have hp5' : (T.set (H.length + 1) ⟨(RR.of (turnN (j + 1))).cells, 1, true⟩)[H.length + 1]? = some ⟨(RR.of (turnN (j + 1))).cells, 1, true⟩ := by
        rw [List.getElem?_set_self (List.getElem?_eq_some_iff.1 hp5).1]
      have hp6' : (T.set (H.length + 1) ⟨(RR.of (turnN (j + 1))).cells, 1, true⟩)[H.length + 2]? = some ⟨(RR.of ⟨0, 1⟩).cells, 1, true⟩ := by
        rw [List.getElem?_set_ne (by omega)]; exact hp6
      have hE' : Ext H (T.set (H.length + 1) ⟨(RR.of (turnN (j + 1))).cells, 1, true⟩) := hE.set (by omega) _
      generalize T.set (H.length + 1) ⟨(RR.of (turnN (j + 1))).cells, 1, true⟩ = T2 at *
      clear hqe hte hown hp5 hp6 hE
      generalize hyn : RR.of (turnN (j + 1)) = yn at *
      generalize RR.of (turnN j) = yj at *
      generalize RR.of ⟨0, 1⟩ = yq at *
      unfold RR.cells at r5 r6 hwr
      unfold RR.val rV at q3
      simp -implicitDefEqProofs only [go_sem, simprocAttr, mkI, iV, mkQ, qV, fV, ofV, rV, mkR, s5, s6, r5, r6]
      refine wl_callV _ (by simp -implicitDefEqProofs only [go_sem, simprocAttr, mkI, iV, mkQ, qV, fV, ofV, rV, mkR, s0, s4, s5, s6, s7, hwr, w1]) (q3 _) ?_
      simp -implicitDefEqProofs only [go_sem, simprocAttr, mkI, iV, mkQ, qV, fV, ofV, rV, mkR, s0, s4, s5, s6, s7, hwr, w1]
      refine ⟨j + 1, ⟨b, hb, ?_⟩, by omega⟩
      rw [hyn]
      ((repeat' apply And.intro) <;> first | rfl | assumption | omega)
    · have hj4 : j = 4 := by omega
      subst hj4
      simp -implicitDefEqProofs only [go_sem, simprocAttr, s4]
      exact ⟨b, hb, rfl, hown, hE⟩
  rintro s T ⟨b, hb, s4, hown, hE⟩
  simp -implicitDefEqProofs only [go_sem, simprocAttr, s4, res13]
  exact ⟨hE, b, hb, rfl, hown⟩
end Go.Proofs.YthhmkaikopdmjaaGreat
set_option linter.unusedSimpArgs false
set_option linter.unusedVariables false
set_option maxRecDepth 8000
namespace Go.Proofs.YthhmkaikopdmjaaGreat
open Go Go.Fw
theorem lists_both {k : Int} (h1 : -9223372036854775808 ≤ k) (h2 : k < 9223372036854775808) : ∃ (lx : List RR) (e : Int), lx.length ≤ 64 ∧
    (∀ H, ∃ w H', Sim Tryz.prog 12 #[.int .i64 k] H w H' ∧ Ext H H' ∧ ∃ x, w = .tuple #[x, .int .i64 e] ∧ RL H' x lx) ∧
    (∀ H, ∃ w H', Sim Tryz.prog 13 #[.int .i64 k] H w H' ∧ Ext H H' ∧ ∃ x, w = .tuple #[x, .int .i64 e] ∧ RL H' x lx) := by
  by_cases hk : 1 ≤ k ∧ k ≤ 16
  · obtain ⟨n, rfl⟩ : ∃ n : Nat, k = n := ⟨k.toNat, by omega⟩
    have n0 : 0 < n := by omega
    have n16 : n ≤ 16 := by omega
    have hl := listR_len n
    refine ⟨listR n, 0, by omega, fun H => ?_, fun H => ?_⟩
    · obtain ⟨w, H', hs, hE, b, hb, rfl, ho⟩ := ListK H n0 n16
      have hr := ho.rl
      rw [hl] at hr
      exact ⟨_, H', hs, hE, _, rfl, hr⟩
    · obtain ⟨w, H', hs, hE, b, hb, rfl, ho⟩ := List45 H n0 n16
      rw [ref_eq ⟨n, by omega⟩ n0] at ho
      have hr := ho.rl
      rw [hl] at hr
      exact ⟨_, H', hs, hE, _, rfl, hr⟩
  · refine ⟨[], 2, by decide, fun H => ?_, fun H => ?_⟩
    · exact ⟨_, H, ListS_bad H (by omega), .refl _, _, rfl, .inl ⟨.inl rfl, rfl⟩⟩
    · obtain ⟨w, H', hs, hE, b, hb, rfl, ho⟩ := List45_bad H (k := k) (by omega) h1 h2
      exact ⟨_, H', hs, hE, _, rfl, .inl ⟨.inr ⟨_, _, _, rfl⟩, rfl⟩⟩
theorem findV_shape (l : List RR) (r : RR) : ∃ (i : Int) (b : Bool) (e : Int), findV l r = .tuple #[.int .i64 i, .bool b, .int .i64 e] := by
  unfold findV
  by_cases h : chk2 l r ≠ 0
  · rw [if_pos h]; exact ⟨_, _, _, rfl⟩
  · rw [if_neg h]
    by_cases h2 : hasR l r = true
    · rw [if_pos h2]; exact ⟨_, _, _, rfl⟩
    · rw [if_neg h2]; exact ⟨_, _, _, rfl⟩
theorem len_ok {n : Nat} (h : lenBad n = false) : n ≤ 66 := by
  unfold lenBad at h
  simp only [decide_eq_false_iff_not] at h
  omega
theorem listsS (H : Heap) {k : Int} (h1 : -9223372036854775808 ≤ k) (h2 : k < 9223372036854775808) {v : Value} {l : List RR} {r : RR} (hv : RL H v l) : Sim Tryz.prog 3 #[.int .i64 k, v, r.val] H (.bool true) H := by
  refine flat_ex rfl ?_
  have aw := awakeS
  have hv1 : RL (H ++ [⟨r.cells, 1, true⟩, ⟨r.cells, 6, true⟩]) v l := hv.ext (.app _ _)
  have hw : RL (H ++ [⟨r.cells, 1, true⟩, ⟨r.cells, 6, true⟩]) (.slice (some ⟨H.length + 1, 0, none⟩) 1 1) [r] := by
    have := row1_at (H ++ [⟨r.cells, 1, true⟩]) r
    simp only [List.append_assoc, List.cons_append, List.nil_append, List.length_append, List.length_cons, List.length_nil, Nat.zero_add] at this
    exact .inr ⟨_, _, _, rfl, this⟩
  have o1 := great45 _ hv1 hw (by simp)
  cases hg : (greatB l || [r].any RR.long)
  case true =>
    rw [hg] at o1
    unfold RR.cells at o1
    unfold RR.val rV
    refine sim_ex tok mixed Tryz.func3 rfl (by kernel_rfl) (by kernel_rfl) (by simp only [Tryz.ntmps3, List.size_toArray, List.length_cons, List.length_nil]; omega) ?_
    simp -implicitDefEqProofs only [go_sem, simprocAttr, mkI, iV, mkQ, qV, fV, ofV, rV, mkR, build22_1]
    refine wl_callV _ (by simp -implicitDefEqProofs only [go_sem, simprocAttr, mkI, iV, mkQ, qV, fV, ofV, rV, mkR, wa_cond, axC_t, axC_f]) o1 ?_
    simp -implicitDefEqProofs only [go_sem, simprocAttr, mkI, iV, mkQ, qV, fV, ofV, rV, mkR, wa_cond, axC_t, axC_f]
    refine wl_callV _ (by simp -implicitDefEqProofs only [go_sem, simprocAttr, mkI, iV, mkQ, qV, fV, ofV, rV, mkR]) (aw _) ?_
    simp -implicitDefEqProofs only [go_sem, simprocAttr, mkI, iV, mkQ, qV, fV, ofV, rV, mkR]
    simp -implicitDefEqProofs only [go_sem, simprocAttr, mkI, iV, mkQ, qV, fV, ofV, rV, mkR, res3]
    first | exact .app _ _ | exact ⟨.app _ _, rfl⟩ | exact .refl _ | exact ⟨.refl _, rfl⟩
  rw [hg] at o1
  rw [Bool.or_eq_false_iff] at hg
  obtain ⟨hle, hlen⟩ := great_le hg.1
  have hr : r.le 64 := any_long hg.2 r (by simp)
  have h66 := len_ok hlen
  obtain ⟨lx, e, hlx, oL, oL'⟩ := lists_both h1 h2
  obtain ⟨fi, fb, fe, hfv⟩ := findV_shape l r
  unfold RR.cells at o1 hv1
  obtain ⟨T1, hT1⟩ : ∃ T, T = H ++ [(⟨[.bool r.g, .string (bs r.n), .string (bs r.d), .bool r.g', .string (bs r.n'), .string (bs r.d')], 1, true⟩ : Blk), ⟨[.bool r.g, .string (bs r.n), .string (bs r.d), .bool r.g', .string (bs r.n'), .string (bs r.d')], 6, true⟩] := ⟨_, rfl⟩
  have hbox : T1[H.length]? = some ⟨r.cells, 1, true⟩ := by rw [hT1, List.getElem?_append_right (by omega)]; simp [RR.cells]
  have hE1 : Ext H T1 := by rw [hT1]; exact .app _ _
  refine sim_ex tok mixed Tryz.func3 rfl (by kernel_rfl) (by kernel_rfl) (by simp only [Tryz.ntmps3, List.size_toArray, List.length_cons, List.length_nil]; omega) ?_
  unfold RR.val rV
  simp -implicitDefEqProofs only [go_sem, simprocAttr, mkI, iV, mkQ, qV, fV, ofV, rV, mkR, build22_1]
  refine wl_callV _ (by simp -implicitDefEqProofs only [go_sem, simprocAttr, mkI, iV, mkQ, qV, fV, ofV, rV, mkR, wa_cond, axC_t, axC_f]) o1 ?_
  simp -implicitDefEqProofs only [go_sem, simprocAttr, mkI, iV, mkQ, qV, fV, ofV, rV, mkR, wa_cond, axC_t, axC_f]
  rw [← hT1] at hv1 ⊢
  clear hT1 o1 hw hg
  refine wl_callT _ (by simp -implicitDefEqProofs only [go_sem, simprocAttr]) (oL T1) ?_
  rintro _ T2 hE2 ⟨x, rfl, hx⟩
  simp -implicitDefEqProofs only [go_sem, simprocAttr]
  refine wl_callT _ (by simp -implicitDefEqProofs only [go_sem, simprocAttr]) (oL' T2) ?_
  rintro _ T3 hE3 ⟨y, rfl, hy⟩
  have hx3 := hx.ext hE3
  have hv3 := (hv1.ext hE2).ext hE3
  have hbox3 := hE3.get (hE2.get hbox)
  have rb := rd_all hbox3 (n := 6) rfl
  have o2 := FindS T3 hv3 hle hr (by decide) (by omega)
  have o3 := Find45 T3 hv3 hle hr (by decide) (by omega)
  have o4 := equalR T3 hx3 hy (by omega)
  have o5 := CheckS T3 hv3 hle (by decide) (by omega)
  have o6 := Check45 T3 hv3 hle (by decide) (by omega)
  rw [hfv] at o2 o3
  rw [decide_eq_true rfl] at o4
  have hE := (hE1.trans hE2).trans hE3
  clear hE1 hE2 hE3 hx hy hx3 hv1 hv3 hbox hbox3 oL oL' hle hlen h66
  generalize chkR l = ch at *
  unfold RR.cells at rb
  unfold RR.val rV at o2 o3
  simp -implicitDefEqProofs only [go_sem, simprocAttr, mkI, iV, mkQ, qV, fV, ofV, rV, mkR, rb]
  refine wl_callV _ (by simp -implicitDefEqProofs only [go_sem, simprocAttr, mkI, iV, mkQ, qV, fV, ofV, rV, mkR, rb]) o2 ?_
  simp -implicitDefEqProofs only [go_sem, simprocAttr, mkI, iV, mkQ, qV, fV, ofV, rV, mkR, rb]
  refine wl_callV _ (by simp -implicitDefEqProofs only [go_sem, simprocAttr, mkI, iV, mkQ, qV, fV, ofV, rV, mkR]) o3 ?_
  simp -implicitDefEqProofs only [go_sem, simprocAttr, mkI, iV, mkQ, qV, fV, ofV, rV, mkR]
  refine wl_callV _ (by simp -implicitDefEqProofs only [go_sem, simprocAttr, mkI, iV, mkQ, qV, fV, ofV, rV, mkR, eq_self, decide_true]) o4 ?_
  simp -implicitDefEqProofs only [go_sem, simprocAttr, mkI, iV, mkQ, qV, fV, ofV, rV, mkR, eq_self, decide_true]
  refine wl_callV _ (by simp -implicitDefEqProofs only [go_sem, simprocAttr, mkI, iV, mkQ, qV, fV, ofV, rV, mkR]) o5 ?_
  simp -implicitDefEqProofs only [go_sem, simprocAttr, mkI, iV, mkQ, qV, fV, ofV, rV, mkR]
  refine wl_callV _ (by simp -implicitDefEqProofs only [go_sem, simprocAttr, mkI, iV, mkQ, qV, fV, ofV, rV, mkR, eq_self, decide_true, bool_eqt, beq_self_eq_true]) o6 ?_
  simp -implicitDefEqProofs only [go_sem, simprocAttr, mkI, iV, mkQ, qV, fV, ofV, rV, mkR, eq_self, decide_true, bool_eqt, beq_self_eq_true]
  refine wl_callV _ (by simp -implicitDefEqProofs only [go_sem, simprocAttr, mkI, iV, mkQ, qV, fV, ofV, rV, mkR]) (aw _) ?_
  simp -implicitDefEqProofs only [go_sem, simprocAttr, mkI, iV, mkQ, qV, fV, ofV, rV, mkR]
  simp -implicitDefEqProofs only [go_sem, simprocAttr, res3]
  first | exact hE | exact ⟨hE, rfl⟩
end Go.Proofs.YthhmkaikopdmjaaGreat
namespace Go.Proofs.YthhmkaikopdmjaaGreat
open Go Go.Fw Go.ChangeShapes Go.WideShapes Go.ChangeAt Go.RowKit Go.Deep
set_option linter.unusedVariables false
set_option maxRecDepth 100000
theorem own : ownKnob Tryz.prog.godebug = none := by kernel_rfl
theorem laid : laidOutB Tryz.prog = true := by kernel_rfl
theorem cells24 : Tryz.prog.cellsOf 24 = 3 := by kernel_rfl
theorem cells26 : Tryz.prog.cellsOf 26 = 6 := by kernel_rfl
theorem cells4 : Tryz.prog.cellsOf 4 = 1 := by kernel_rfl
theorem cells9 : Tryz.prog.cellsOf 9 = 1 := by kernel_rfl
theorem under4 : Tryz.prog.underlying 4 = some .bool := Tryz.underlying4
theorem under9 : Tryz.prog.underlying 9 = some .string := Tryz.underlying9
section
variable {H : Type} {enc : TypeId × Value → H} {w : World} {base : Nat} {spare : Nat → Bool} {held : Bool}
theorem open_rat {n : Nat} {cs : List Value} {x : DataW H × List MemPlace} (h : DataW.trod enc Tryz.prog w base spare held n 24 cs = some x) : ∃ g a b, cs = [.bool g, .string (bs a), .string (bs b)] := by
  obtain ⟨xs, m, _, _, hl, _, hf⟩ := DataW.trod_struct Tryz.underlying24 h
  rw [cells24] at hl
  match cs, hl with
  | [v0, v1, v2], _ =>
    have f0 : DataW.trod enc Tryz.prog w base spare held m 4 (([v0, v1, v2].drop 0).take (Tryz.prog.cellsOf 4)) = xs[0]? := hf 0 _ rfl
    have f1 : DataW.trod enc Tryz.prog w base spare held m 9 (([v0, v1, v2].drop 1).take (Tryz.prog.cellsOf 9)) = xs[1]? := hf 1 _ rfl
    have f2 : DataW.trod enc Tryz.prog w base spare held m 9 (([v0, v1, v2].drop 2).take (Tryz.prog.cellsOf 9)) = xs[2]? := hf 2 _ rfl
    rw [cells4] at f0
    rw [cells9] at f1 f2
    simp only [List.drop_zero, List.drop_succ_cons, List.take_succ_cons, List.take_zero] at f0 f1 f2
    have e0 : ∃ y, DataW.trod enc Tryz.prog w base spare held m 4 [v0] = some y := by rw [f0]; exact ⟨_, List.getElem?_eq_getElem (by simp_all)⟩
    have e1 : ∃ y, DataW.trod enc Tryz.prog w base spare held m 9 [v1] = some y := by rw [f1]; exact ⟨_, List.getElem?_eq_getElem (by simp_all)⟩
    have e2 : ∃ y, DataW.trod enc Tryz.prog w base spare held m 9 [v2] = some y := by rw [f2]; exact ⟨_, List.getElem?_eq_getElem (by simp_all)⟩
    obtain ⟨y0, e0⟩ := e0
    obtain ⟨y1, e1⟩ := e1
    obtain ⟨y2, e2⟩ := e2
    obtain ⟨g, h0, _⟩ := DataW.trod_bool under4 e0
    obtain ⟨s1, h1, _, _⟩ := DataW.trod_string under9 e1
    obtain ⟨s2, h2, _, _⟩ := DataW.trod_string under9 e2
    injection h0 with h0
    injection h1 with h1
    injection h2 with h2
    subst h0 h1 h2
    exact ⟨g, bl s1, bl s2, by rw [bs_bl, bs_bl]⟩
theorem open_rot {n : Nat} {cs : List Value} {x : DataW H × List MemPlace} (h : DataW.trod enc Tryz.prog w base spare held n 26 cs = some x) : ∃ r : RR, cs = r.cells := by
  obtain ⟨xs, m, _, _, hl, hxl, hf⟩ := DataW.trod_struct Tryz.underlying26 h
  rw [cells26] at hl
  match cs, hl with
  | [v0, v1, v2, v3, v4, v5], _ =>
    have f0 : DataW.trod enc Tryz.prog w base spare held m 24 (([v0, v1, v2, v3, v4, v5].drop 0).take (Tryz.prog.cellsOf 24)) = xs[0]? := hf 0 _ rfl
    have f1 : DataW.trod enc Tryz.prog w base spare held m 24 (([v0, v1, v2, v3, v4, v5].drop 3).take (Tryz.prog.cellsOf 24)) = xs[1]? := hf 1 _ rfl
    rw [cells24] at f0 f1
    simp only [List.drop_zero, List.drop_succ_cons, List.take_succ_cons, List.take_zero] at f0 f1
    have e0 : ∃ y, DataW.trod enc Tryz.prog w base spare held m 24 [v0, v1, v2] = some y := by rw [f0]; exact ⟨_, List.getElem?_eq_getElem (by simp_all)⟩
    have e1 : ∃ y, DataW.trod enc Tryz.prog w base spare held m 24 [v3, v4, v5] = some y := by rw [f1]; exact ⟨_, List.getElem?_eq_getElem (by simp_all)⟩
    obtain ⟨y0, e0⟩ := e0
    obtain ⟨y1, e1⟩ := e1
    obtain ⟨g, a, b, h0⟩ := open_rat e0
    obtain ⟨g', a', b', h1⟩ := open_rat e1
    simp only [List.cons.injEq, and_true] at h0 h1
    obtain ⟨rfl, rfl, rfl⟩ := h0
    obtain ⟨rfl, rfl, rfl⟩ := h1
    exact ⟨⟨g, a, b, g', a', b'⟩, rfl⟩
end
theorem vr_cells {ρ : Inj} (r : RR) : ∀ (i : Nat) (v : Value), r.cells[i]? = some v → VR ρ v v := by
  intro i v h
  unfold RR.cells at h
  match i with
  | 0 => cases h; exact .bool _
  | 1 => cases h; exact .str _
  | 2 => cases h; exact .str _
  | 3 => cases h; exact .bool _
  | 4 => cases h; exact .str _
  | 5 => cases h; exact .str _
  | i + 6 => cases h
theorem vr_rot (ρ : Inj) (r : RR) : VR ρ r.val r.val := by
  refine .agg _ _ rfl fun i h1 h2 => ?_
  exact vr_cells r i _ (by rw [← List.getElem?_toArray]; exact Array.getElem?_eq_getElem h1)
theorem arg_rot {H : Type} {enc : TypeId × Value → H} {w : World} {base : Nat} {spare : Nat → Bool} {held : Bool} {r : Reach} {b0 : Nat} {v : Value} {d : DataW H} {ps : List MemPlace} (hv : Value.okWide Tryz.prog w r b0 26 v) (h : DataW.Trod enc Tryz.prog w base spare held 26 v d ps) : ∃ x : RR, v = x.val := by
  obtain ⟨n, h⟩ := h
  simp only [Value.okWide, Tryz.underlying26] at hv
  obtain ⟨cs, rfl, _⟩ := hv
  obtain ⟨x, hx⟩ := open_rot h
  refine ⟨x, ?_⟩
  have : cs.toList = x.cells := hx
  show Value.agg cs = _
  unfold RR.val rV
  rw [← Array.toArray_toList (xs := cs), this]
  rfl
def Safe (ρ : Inj) (H : Heap) : Prop := ∀ b p B, ρ b = some (.lies p) → H[b]? = some B → B.own = false
theorem below_of {ρ ρ' : Inj} {H H' : Heap} {W W' : World} (hs : Safe ρ H) (s : Step ρ H W ρ' H' W') : Below W.heap.size W W' :=
  ⟨s.frame.os, s.frame.tape, s.frame.output, s.frame.size, fun k hk => s.frame.block k hk (fun ⟨b, p, B, h1, h2, h3, _⟩ => by rw [hs b p B h1 h2] at h3; cases h3)⟩
theorem mem_nil (W : World) : Mem (fun _ => Option.none) [] W :=
  ⟨(fun b h => absurd rfl h), (fun b h => by cases h), (fun b p h => by cases h), (fun b b' p p' B _ h => by cases h)⟩
theorem flat_get : ∀ {l : List RR} {i : Nat} {v : Value}, (l.map RR.cells).flatten[i]? = some v → ∃ j, ∃ h : j < l.length, ∃ q, q < 6 ∧ i = j * 6 + q ∧ l[j].cells[q]? = some v := by
  intro l
  induction l with
  | nil => intro i v h; simp at h
  | cons r l ih =>
    intro i v h
    simp only [List.map_cons, List.flatten_cons] at h
    by_cases hi : i < 6
    · rw [List.getElem?_append_left (by rw [RR.cells_len]; exact hi)] at h
      exact ⟨0, by simp, i, hi, by omega, h⟩
    · rw [List.getElem?_append_right (by rw [RR.cells_len]; omega), RR.cells_len] at h
      obtain ⟨j, hj, q, hq, e, hv⟩ := ih h
      exact ⟨j + 1, by simpa using hj, q, hq, by omega, hv⟩
theorem choose_below {n : Nat} {α : Type} (d : α) {p : Nat → α → Prop} (h : ∀ i, i < n → ∃ a, p i a) : ∃ f : Nat → α, ∀ i, i < n → p i (f i) :=
  ⟨fun i => if hi : i < n then (h i hi).choose else d, fun i hi => by simp only [dif_pos hi]; exact (h i hi).choose_spec⟩
theorem arg_list {H : Type} {enc : TypeId × Value → H} {W : World} {base : Nat} {held : Bool} {r : Reach} {b0 : Nat} {v : Value} {d : DataW H} {ps : List MemPlace} (hv : Value.okWide Tryz.prog W r b0 22 v)
    (h : DataW.Trod enc Tryz.prog W base (fun _ => true) held 22 v d ps) : ∃ (ρ : Inj) (T : Heap) (u : Value) (l : List RR), Mem ρ T W ∧ Safe ρ T ∧ VR ρ u v ∧ RL T u l := by
  obtain ⟨n, h⟩ := h
  obtain ⟨a, len, cap, rfl⟩ := okWide_slice Tryz.underlying22 hv
  rcases open_slice Tryz.underlying22 h with ⟨hcs, _⟩ | ⟨a, len, cap, m, n, D, Pl, hcs, hb, hl, hm, hmm, _, hx⟩
  · simp [Value.cells] at hcs
    obtain ⟨rfl, rfl, rfl⟩ := hcs
    exact ⟨_, [], .slice none 0 0, [], mem_nil W, (fun b p B h => by cases h), .nilslice, .inl ⟨.inl rfl, rfl⟩⟩
  · simp [Value.cells] at hcs
    obtain ⟨rfl, rfl, rfl⟩ := hcs
    simp only [if_true] at hmm
    subst hmm
    rw [cells26] at hx
    by_cases hc : m = 0
    · subst hc
      obtain rfl : len = 0 := by omega
      refine ⟨fun b => if b = 0 then some .dead else none, [deadBlk], .slice (some ⟨0, 0, none⟩) 0 0, [], ⟨fun b h => ?_, fun b h => ?_, fun b p h => ?_, fun b b' p p' B _ h => ?_⟩, fun b p B h => ?_, .sliceNone _ _ _ (by simp), .inl ⟨.inr ⟨_, _, _, rfl⟩, rfl⟩⟩
      · by_cases h0 : b = 0
        · subst h0; simp
        · simp [h0] at h
      · by_cases h0 : b = 0
        · subst h0; rfl
        · simp [h0] at h
      · by_cases h0 : b = 0 <;> simp [h0] at h
      · by_cases h0 : b = 0 <;> simp [h0] at h
      · by_cases h0 : b = 0 <;> simp [h0] at h
    · obtain ⟨f, hf⟩ := choose_below (⟨false, [], [], false, [], []⟩ : RR) (p := fun i r => W.cells? base (a.add (i * 6)) 6 = some r.cells) (fun i hi => by
        obtain ⟨cs', h1, h2⟩ := hx i hi
        obtain ⟨r, hr⟩ := open_rot h2
        exact ⟨r, by rw [h1, hr]⟩)
      have hcell : ∀ j, j < m → ∀ q, q < 6 → W.cell? (a.add (j * 6 + q)) = (f j).cells[q]? := fun j hj q hq => by
        obtain ⟨_, _, h3⟩ := World.cells?_some (hf j hj)
        have := h3 q hq
        rw [← this, add_add]
      have h00 := hcell 0 (by omega) 0 (by decide)
      have hsp : a.spot = none ∧ a.block < W.heap.size := by
        simp only [Nat.zero_mul, Nat.zero_add] at h00
        have e : (f 0).cells[0]? = some (.bool (f 0).g) := rfl
        rw [e] at h00
        unfold World.cell? at h00
        split at h00
        · rename_i c _ _ hb
          constructor
          · by_cases h1 : a.spot.isSome = true
            · have : (a.add 0).spot = a.spot := rfl
              rw [this, if_pos h1] at h00; cases h00
            · simpa using h1
          · have : (a.add 0).block = a.block := rfl
            rw [this] at hb
            exact (Array.getElem?_eq_some_iff.1 hb).1
        · cases h00
      obtain ⟨blk, off, spot⟩ := a
      simp only at hsp
      obtain ⟨rfl, hlt⟩ := hsp
      have hll : ((List.range len).map f).length = len := by simp
      have hfl : (((List.range len).map f).map RR.cells).flatten.length = len * 6 := by
        rw [flatten_len (RR.cells_all _)]; simp; omega
      refine ⟨fun b => if b = 0 then some (.lies ⟨blk, off, len * 6, 6⟩) else none, [⟨(((List.range len).map f).map RR.cells).flatten, 6, false⟩], .slice (some ⟨0, 0, none⟩) len m, (List.range len).map f,
        ⟨fun b h => ?_, fun b h => ?_, fun b p h => ?_, fun b b' p p' B hne h h' => ?_⟩, fun b p B h hB => ?_, ?_, ?_⟩
      · by_cases h0 : b = 0
        · subst h0; simp
        · simp [h0] at h
      · by_cases h0 : b = 0 <;> simp [h0] at h
      · by_cases h0 : b = 0
        · subst h0
          simp only [if_true, Option.some.injEq, Spot.lies.injEq] at h
          subst h
          refine ⟨_, rfl, hlt, rfl, (show 0 < 6 by decide), by rw [hfl]; exact Nat.le_refl _, fun i v hv => ?_, fun h => by cases h⟩
          obtain ⟨j, hj, q, hq, rfl, hv2⟩ := flat_get hv
          rw [hll] at hj
          have := hcell j (by omega) q hq
          simp only [List.getElem_map, List.getElem_range] at hv2
          rw [hv2, add_plain] at this
          exact ⟨v, this, vr_cells _ _ _ hv2⟩
        · simp [h0] at h
      · by_cases h0 : b = 0
        · by_cases h1 : b' = 0
          · exact absurd (h0.trans h1.symm) hne
          · simp [h1] at h'
        · simp [h0] at h
      · by_cases h0 : b = 0
        · subst h0; cases hB; rfl
        · simp [h0] at h
      · have := VR.slice (ρ := fun b => if b = 0 then some (.lies ⟨blk, off, len * 6, 6⟩) else none) 0 0 len m ⟨blk, off, len * 6, 6⟩ m rfl hl (.inr rfl) (fun h => absurd h hc)
        simpa using this
      · refine .inr ⟨0, 0, m, by simp, .inr (by simpa using hl), by decide, RR.cells_all _, ⟨_, rfl, rfl, ?_, ?_⟩, RR.cells_ok _⟩
        · rw [hfl]; simp; omega
        · simp only [List.drop_zero, List.length_map, List.length_range]
          exact List.take_of_length_le (by rw [hfl]; omega)
end Go.Proofs.YthhmkaikopdmjaaGreat
