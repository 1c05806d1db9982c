/- the reference of rational: Normal, Check, Neg, Add, Mul, Sub, Compare; the reference of rational: Sign, Sub, Quo, Floor, Ceil, simplest, Simplest; the reference of rational: simplest, Simplest; the reference of rotation: over, back, then, upper, compare, Check; the reference of rotation: None, Then, Compare, Of, Middle; the reference of slices: less, Check, Long, Great, find, Find; the reference of slices: find, Find; the law SlicesFinds; slices.Insert: no room, and room; slices.Insert: in place, and at the end; slices.Insert: whatever the capacity; narrows/slices: Insert; slices.Delete: one rotation; insertions, as lists; the law SlicesInserts; Arguments of a law, as abstract values: rotations and lists of rotations. Conditions: none. -/
import Derived.Test.YthhmkaikopdmjaaGreatMf
import Derived.WalkKit
import Derived.ProofKit
import Derived.OpenShut
import Derived.Deep.Slices
import Derived.Carry
set_option linter.unusedSimpArgs false
set_option linter.unusedVariables false
set_option maxRecDepth 8000
namespace Go.Proofs.YthhmkaikopdmjaaGreat
open Go Go.Fw
theorem small_or (g : Bool) (n d : List UInt8) : (n.length ≤ 3 ∧ d.length ≤ 3 ∧ ∀ H, Sim Tryz.prog 168 #[qV g n d] H (.tuple #[.int .i64 (ival g n), .int .i64 (dval d : Nat), .bool true]) H) ∨
    (∀ H, Sim Tryz.prog 168 #[qV g n d] H (.tuple #[.int .i64 0, .int .i64 0, .bool false]) H) := by
  by_cases h : 3 < n.length ∨ 3 < d.length
  · exact .inr fun H => small_big H h
  · exact .inl ⟨by omega, by omega, fun H => small_small H (by omega) (by omega)⟩
theorem dval_lt {d : List UInt8} {k : Nat} (h : 8 * d.length ≤ k) : ((dval d : Nat) : Int).natAbs < 2 ^ (k + 1) := by
  have := valB_lt2 d h
  have h1 := Nat.one_le_two_pow (n := k)
  rw [Nat.pow_succ, Int.natAbs_natCast]
  unfold dval
  split <;> omega
theorem ival_lt (g : Bool) {n : List UInt8} {k : Nat} (h : 8 * n.length ≤ k) : (ival g n).natAbs < 2 ^ (k + 1) := by
  rw [ival_abs, Nat.pow_succ]
  have := valB_lt2 n h
  omega
theorem normalR (H : Heap) {v : Value} {q : Rat} {k : Nat} (hv : QV v q k) (hk : k ≤ 4000000) : Sim Tryz.prog 173 #[v] H (mkQ q) H := by
  refine flat_ex rfl ?_
  obtain ⟨g, n, d, rfl, rfl, h1, h2⟩ := hv
  have d0 := dval_pos d
  have pA := fun H => partsR H (g := g) (n := n) (d := d) (by omega) (by omega)
  have r1 := fun H => reduceR H (IA.mk (ival_lt g h1)) (IA.mk (dval_lt h2)) (by omega) (by omega)
  rw [divInt_pos (by omega), Int.natAbs_natCast] at r1
  have hq : qval g n d = mkRat (ival g n) (dval d) := rfl
  rw [← hq] at r1
  rcases small_or g n d with ⟨x1, x2, oA⟩ | oA
  · have b1 := ival3 g x1
    have b2 := dval3 x2
    have oP := fun H => packR H (n := ival g n) (d := dval d) (by omega) (by omega) d0
    rw [← hq] at oP
    generalize qval g n d = Q at *
    generalize ival g n = P at *
    generalize dval d = D at *
    unfold qV at oA pA ⊢
    refine sim_ex tok mixed Tryz.func173 rfl (by kernel_rfl) (by kernel_rfl) (by simp only [Tryz.ntmps173, List.size_toArray, List.length_cons, List.length_nil]; omega) ?_
    simp -implicitDefEqProofs only [go_sem, simprocAttr, mkI, iV, mkQ, qV, fV, ofV, rV, mkR]
    refine wl_callV _ (by simp -implicitDefEqProofs only [go_sem, simprocAttr, mkI, iV, mkQ, qV, fV, ofV, rV, mkR, axC_t, axC_f, wa_cond]) (oA _) ?_
    simp -implicitDefEqProofs only [go_sem, simprocAttr, mkI, iV, mkQ, qV, fV, ofV, rV, mkR, axC_t, axC_f, wa_cond]
    refine wl_callV _ (by simp -implicitDefEqProofs only [go_sem, simprocAttr, mkI, iV, mkQ, qV, fV, ofV, rV, mkR]) (oP _) ?_
    simp -implicitDefEqProofs only [go_sem, simprocAttr, mkI, iV, mkQ, qV, fV, ofV, rV, mkR]
    simp -implicitDefEqProofs only [go_sem, simprocAttr, mkI, iV, mkQ, qV, fV, ofV, rV, mkR, res173]
    first | exact .app _ _ | exact ⟨.app _ _, rfl⟩ | exact .refl _ | exact ⟨.refl _, rfl⟩
  · generalize qval g n d = Q at *
    generalize ival g n = P at *
    generalize dval d = D at *
    unfold qV at oA pA ⊢
    refine sim_ex tok mixed Tryz.func173 rfl (by kernel_rfl) (by kernel_rfl) (by simp only [Tryz.ntmps173, List.size_toArray, List.length_cons, List.length_nil]; omega) ?_
    simp -implicitDefEqProofs only [go_sem, simprocAttr, mkI, iV, mkQ, qV, fV, ofV, rV, mkR]
    refine wl_callV _ (by simp -implicitDefEqProofs only [go_sem, simprocAttr, mkI, iV, mkQ, qV, fV, ofV, rV, mkR, axC_t, axC_f, wa_cond]) (oA _) ?_
    simp -implicitDefEqProofs only [go_sem, simprocAttr, mkI, iV, mkQ, qV, fV, ofV, rV, mkR, axC_t, axC_f, wa_cond]
    refine wl_callV _ (by simp -implicitDefEqProofs only [go_sem, simprocAttr, mkI, iV, mkQ, qV, fV, ofV, rV, mkR]) (pA _) ?_
    simp -implicitDefEqProofs only [go_sem, simprocAttr, mkI, iV, mkQ, qV, fV, ofV, rV, mkR]
    refine wl_callV _ (by simp -implicitDefEqProofs only [go_sem, simprocAttr, mkI, iV, mkQ, qV, fV, ofV, rV, mkR]) (r1 _) ?_
    simp -implicitDefEqProofs only [go_sem, simprocAttr, mkI, iV, mkQ, qV, fV, ofV, rV, mkR]
    simp -implicitDefEqProofs only [go_sem, simprocAttr, mkI, iV, mkQ, qV, fV, ofV, rV, mkR, res173]
    first | exact .app _ _ | exact ⟨.app _ _, rfl⟩ | exact .refl _ | exact ⟨.refl _, rfl⟩
theorem qcheckR (H : Heap) {g : Bool} {n d : List UInt8} (hn : n.length ≤ 400000) (hd : d.length ≤ 400000) : Sim Tryz.prog 110 #[qV g n d] H (.int .i64 (if isCan g n d = true then 0 else 1)) H := by
  refine flat_ex rfl ?_
  have o1 := fun H => normalR H (QV.raw g n d (k := 3200000) (by omega) (by omega)) (by decide)
  have hq := neq24 (decide ((qval g n d).num < 0)) g (digB (qval g n d).num.natAbs) (denB (qval g n d).den) n d
  have e2 : decide (¬ (decide ((qval g n d).num < 0) = g ∧ digB (qval g n d).num.natAbs = n ∧ denB (qval g n d).den = d)) = !(isCan g n d) := by
    unfold isCan
    rw [← decide_not]
    refine decide_eq_decide.2 (not_congr ?_)
    constructor <;> rintro ⟨a, b, c⟩ <;> exact ⟨a.symm, b.symm, c.symm⟩
  rw [e2] at hq
  cases h0 : isCan g n d
  · rw [h0] at hq
    generalize qval g n d = q at *
    unfold qV mkQ at *
    refine sim_ex tok mixed Tryz.func110 rfl (by kernel_rfl) (by kernel_rfl) (by simp only [Tryz.ntmps110, List.size_toArray, List.length_cons, List.length_nil]; omega) ?_
    simp -implicitDefEqProofs only [go_sem, simprocAttr, mkI, iV, mkQ, qV, fV, ofV, rV, mkR]
    refine ax_quiet (by kernel_rfl) ?_
    simp -implicitDefEqProofs only [go_sem, simprocAttr, mkI, iV, mkQ, qV, fV, ofV, rV, mkR]
    refine wl_callV _ (by simp -implicitDefEqProofs only [go_sem, simprocAttr, mkI, iV, mkQ, qV, fV, ofV, rV, mkR, hq]) (o1 _) ?_
    simp -implicitDefEqProofs only [go_sem, simprocAttr, mkI, iV, mkQ, qV, fV, ofV, rV, mkR, hq]
    simp -implicitDefEqProofs only [go_sem, simprocAttr, mkI, iV, mkQ, qV, fV, ofV, rV, mkR, wa_cond, axC_t, axC_f]
    simp -implicitDefEqProofs only [go_sem, simprocAttr, mkI, iV, mkQ, qV, fV, ofV, rV, mkR, res110]
    first | exact .app _ _ | exact ⟨.app _ _, rfl⟩ | exact .refl _ | exact ⟨.refl _, rfl⟩
  · rw [h0] at hq
    generalize qval g n d = q at *
    unfold qV mkQ at *
    refine sim_ex tok mixed Tryz.func110 rfl (by kernel_rfl) (by kernel_rfl) (by simp only [Tryz.ntmps110, List.size_toArray, List.length_cons, List.length_nil]; omega) ?_
    simp -implicitDefEqProofs only [go_sem, simprocAttr, mkI, iV, mkQ, qV, fV, ofV, rV, mkR]
    refine ax_quiet (by kernel_rfl) ?_
    simp -implicitDefEqProofs only [go_sem, simprocAttr, mkI, iV, mkQ, qV, fV, ofV, rV, mkR]
    refine wl_callV _ (by simp -implicitDefEqProofs only [go_sem, simprocAttr, mkI, iV, mkQ, qV, fV, ofV, rV, mkR, hq]) (o1 _) ?_
    simp -implicitDefEqProofs only [go_sem, simprocAttr, mkI, iV, mkQ, qV, fV, ofV, rV, mkR, hq]
    simp -implicitDefEqProofs only [go_sem, simprocAttr, mkI, iV, mkQ, qV, fV, ofV, rV, mkR, wa_cond, axC_t, axC_f]
    simp -implicitDefEqProofs only [go_sem, simprocAttr, mkI, iV, mkQ, qV, fV, ofV, rV, mkR, res110]
    first | exact .app _ _ | exact ⟨.app _ _, rfl⟩ | exact .refl _ | exact ⟨.refl _, rfl⟩
theorem negRQ (H : Heap) {v : Value} {q : Rat} {k : Nat} (hv : QV v q k) (hk : k ≤ 4000000) : Sim Tryz.prog 188 #[v] H (mkQ (-q)) H := by
  refine flat_ex rfl ?_
  obtain ⟨g, n, d, rfl, rfl, h1, h2⟩ := hv
  have o1 := fun H => normalR H (QV.raw (!g) n d h1 h2) hk
  rw [qval_not] at o1
  generalize -qval g n d = Q at *
  unfold qV at *
  refine sim_ex tok mixed Tryz.func188 rfl (by kernel_rfl) (by kernel_rfl) (by simp only [Tryz.ntmps188, List.size_toArray, List.length_cons, List.length_nil]; omega) ?_
  simp -implicitDefEqProofs only [go_sem, simprocAttr, mkI, iV, mkQ, qV, fV, ofV, rV, mkR]
  refine wl_callV _ (by simp -implicitDefEqProofs only [go_sem, simprocAttr, mkI, iV, mkQ, qV, fV, ofV, rV, mkR]) (o1 _) ?_
  simp -implicitDefEqProofs only [go_sem, simprocAttr, mkI, iV, mkQ, qV, fV, ofV, rV, mkR]
  simp -implicitDefEqProofs only [go_sem, simprocAttr, mkI, iV, mkQ, qV, fV, ofV, rV, mkR, res188]
  first | exact .app _ _ | exact ⟨.app _ _, rfl⟩ | exact .refl _ | exact ⟨.refl _, rfl⟩
theorem addRQ (H : Heap) {v w : Value} {a b : Rat} {k k' : Nat} (hv : QV v a k) (hw : QV w b k') (hk : k ≤ 600000) (hk' : k' ≤ 600000) : Sim Tryz.prog 106 #[v, w] H (mkQ (a + b)) H := by
  refine flat_ex rfl ?_
  obtain ⟨K, hK⟩ : ∃ K, K = 600000 := ⟨_, rfl⟩
  obtain ⟨g, n, d, rfl, rfl, h1, h2⟩ := QV.mono hv (k' := K) (by omega)
  obtain ⟨g', n', d', rfl, rfl, h3, h4⟩ := QV.mono hw (k' := K) (by omega)
  have d0 := dval_pos d
  have d0' := dval_pos d'
  have pA := fun H => partsR H (g := g) (n := n) (d := d) (by omega) (by omega)
  have pB := fun H => partsR H (g := g') (n := n') (d := d') (by omega) (by omega)
  have zP := ival_lt g h1
  have zD := dval_lt h2
  have zP' := ival_lt g' h3
  have zD' := dval_lt h4
  have law : qval g n d + qval g' n' d' = mkRat (ival g n * (dval d' : Nat) + ival g' n' * (dval d : Nat)) (dval d * dval d') := mkRat_add' _ _ d0 d0'
  rw [law]
  have sA := small_or g n d
  have sB := small_or g' n' d'
  have b1 := fun x1 => ival3 g (n := n) x1
  have b2 := fun x1 => dval3 (n := d) x1
  have b3 := fun x1 => ival3 g' (n := n') x1
  have b4 := fun x1 => dval3 (n := d') x1
  clear law
  generalize ival g n = P at *
  generalize dval d = D at *
  generalize ival g' n' = P' at *
  generalize dval d' = D' at *
  unfold qV at *
  have e1 := absmul zP zD'
  have e2 := absmul zP' zD
  have e3 := absadd e1 e2
  have e4 := absmul zD zD'
  have m1 := fun H => rMul H (IA.mk zP) (IA.mk zD') (by omega) (by omega)
  have m2 := fun H => rMul H (IA.mk zP') (IA.mk zD) (by omega) (by omega)
  have m3 := fun H => rAdd H (IA.mk e1) (IA.mk e2) (by omega) (by omega)
  have m4 := fun H => rMul H (IA.mk zD) (IA.mk zD') (by omega) (by omega)
  have h0 : (D : Int) * (D' : Int) ≠ 0 := by have := Nat.mul_pos d0 d0'; rw [mulc]; omega
  have r1 := fun H => reduceR H (IA.mk e3) ((IA.mk e4).mono (k' := K + 1 + (K + 1) + 1 + 7) (by omega)) (by omega) h0
  rw [divInt_pos (by have := Nat.mul_pos d0 d0'; rw [mulc]; omega), mulc, Int.natAbs_natCast] at r1
  rw [mulc] at m4
  clear e1 e2 e3 e4 zP zP' zD zD' 
  refine sim_ex tok mixed Tryz.func106 rfl (by kernel_rfl) (by kernel_rfl) (by simp only [Tryz.ntmps106, List.size_toArray, List.length_cons, List.length_nil]; omega) ?_
  simp -implicitDefEqProofs only [go_sem, simprocAttr, mkI, iV, mkQ, qV, fV, ofV, rV, mkR]
  apply shareK (M := fun s T => s 2 = .pointer (some ⟨H.length, 0, none⟩) ∧ s 3 = .pointer (some ⟨H.length + 1, 0, none⟩) ∧ s 4 = .pointer (some ⟨H.length + 2, 0, none⟩) ∧ T = H ++ [⟨[.bool g, .string (bs n), .string (bs d)], 1, true⟩, ⟨[.bool g', .string (bs n'), .string (bs d')], 1, true⟩, ⟨[.bool false, .string (bs []), .string (bs [])], 1, true⟩])
  · intro hrest
    rcases sA with ⟨x1, x2, oA⟩ | oA
    · rcases sB with ⟨x3, x4, oB⟩ | oB
      · have b1 := b1 x1
        have b2 := b2 x2
        have b3 := b3 x3
        have b4 := b4 x4
        have p1 := prod3 (x := P) (y := (D' : Int)) b1 (by omega)
        have p2 := prod3 (x := P') (y := (D : Int)) b3 (by omega)
        have p3 : D * D' ≤ 16777216 * 16777216 := Nat.mul_le_mul b2 b4
        have w1 : IntKind.i64.wrap (P * (D' : Int)) = P * (D' : Int) := w64 (by omega) (by omega)
        have w2 : IntKind.i64.wrap (P' * (D : Int)) = P' * (D : Int) := w64 (by omega) (by omega)
        have w3 : IntKind.i64.wrap (P * (D' : Int) + P' * (D : Int)) = P * (D' : Int) + P' * (D : Int) := w64 (by omega) (by omega)
        have w4 : IntKind.i64.wrap ((D : Int) * (D' : Int)) = ((D * D' : Nat) : Int) := by rw [mulc, w64n (by omega)]
        have oP := fun H => packR H (n := P * (D' : Int) + P' * (D : Int)) (d := D * D') (by omega) (by omega) (Nat.mul_pos d0 d0')
        refine wl_callV _ (by simp -implicitDefEqProofs only [go_sem, simprocAttr, mkI, iV, mkQ, qV, fV, ofV, rV, mkR]) (oA _) ?_
        simp -implicitDefEqProofs only [go_sem, simprocAttr, mkI, iV, mkQ, qV, fV, ofV, rV, mkR]
        refine wl_callV _ (by simp -implicitDefEqProofs only [go_sem, simprocAttr, mkI, iV, mkQ, qV, fV, ofV, rV, mkR, wa_cond, axC_t, axC_f, w1, w2, w3, w4]) (oB _) ?_
        simp -implicitDefEqProofs only [go_sem, simprocAttr, mkI, iV, mkQ, qV, fV, ofV, rV, mkR, wa_cond, axC_t, axC_f, w1, w2, w3, w4]
        refine wl_callV _ (by simp -implicitDefEqProofs only [go_sem, simprocAttr, mkI, iV, mkQ, qV, fV, ofV, rV, mkR]) (oP _) ?_
        simp -implicitDefEqProofs only [go_sem, simprocAttr, mkI, iV, mkQ, qV, fV, ofV, rV, mkR]
        simp -implicitDefEqProofs only [go_sem, simprocAttr, mkI, iV, mkQ, qV, fV, ofV, rV, mkR, res106]
        first | exact .app _ _ | exact ⟨.app _ _, rfl⟩ | exact .refl _ | exact ⟨.refl _, rfl⟩
      · refine wl_callV _ (by simp -implicitDefEqProofs only [go_sem, simprocAttr, mkI, iV, mkQ, qV, fV, ofV, rV, mkR]) (oA _) ?_
        simp -implicitDefEqProofs only [go_sem, simprocAttr, mkI, iV, mkQ, qV, fV, ofV, rV, mkR]
        refine wl_callV _ (by simp -implicitDefEqProofs only [go_sem, simprocAttr, mkI, iV, mkQ, qV, fV, ofV, rV, mkR]) (oB _) ?_
        simp -implicitDefEqProofs only [go_sem, simprocAttr, mkI, iV, mkQ, qV, fV, ofV, rV, mkR]
        refine ax_mid _ ?_ hrest
        simp -implicitDefEqProofs only [go_sem, simprocAttr, mkI, iV, mkQ, qV, fV, ofV, rV, mkR, wa_cond, axC_t, axC_f]
    · obtain ⟨y1, y2, y3, oB⟩ : ∃ y1 y2 y3, ∀ H, Sim Tryz.prog 168 #[.agg #[.bool g', .string (bs n'), .string (bs d')]] H (.tuple #[.int .i64 y1, .int .i64 y2, .bool y3]) H := by
        rcases sB with ⟨_, _, oB⟩ | oB
        · exact ⟨_, _, _, oB⟩
        · exact ⟨_, _, _, oB⟩
      refine wl_callV _ (by simp -implicitDefEqProofs only [go_sem, simprocAttr, mkI, iV, mkQ, qV, fV, ofV, rV, mkR]) (oA _) ?_
      simp -implicitDefEqProofs only [go_sem, simprocAttr, mkI, iV, mkQ, qV, fV, ofV, rV, mkR]
      refine wl_callV _ (by simp -implicitDefEqProofs only [go_sem, simprocAttr, mkI, iV, mkQ, qV, fV, ofV, rV, mkR]) (oB _) ?_
      simp -implicitDefEqProofs only [go_sem, simprocAttr, mkI, iV, mkQ, qV, fV, ofV, rV, mkR]
      refine ax_mid _ ?_ hrest
      simp -implicitDefEqProofs only [go_sem, simprocAttr, mkI, iV, mkQ, qV, fV, ofV, rV, mkR, wa_cond, axC_t, axC_f]
  rintro s T ⟨s2, s3, s4, rfl⟩
  simp -implicitDefEqProofs only [go_sem, simprocAttr, mkI, iV, mkQ, qV, fV, ofV, rV, mkR, s2, s3]
  refine wl_callV _ (by simp -implicitDefEqProofs only [go_sem, simprocAttr, mkI, iV, mkQ, qV, fV, ofV, rV, mkR, s2, s3]) (pA _) ?_
  simp -implicitDefEqProofs only [go_sem, simprocAttr, mkI, iV, mkQ, qV, fV, ofV, rV, mkR, s2, s3]
  refine wl_callV _ (by simp -implicitDefEqProofs only [go_sem, simprocAttr, mkI, iV, mkQ, qV, fV, ofV, rV, mkR, s2, s3]) (pB _) ?_
  simp -implicitDefEqProofs only [go_sem, simprocAttr, mkI, iV, mkQ, qV, fV, ofV, rV, mkR, s2, s3]
  refine ax_quiet (by kernel_rfl) ?_
  simp -implicitDefEqProofs only [go_sem, simprocAttr, mkI, iV, mkQ, qV, fV, ofV, rV, mkR]
  refine wl_callV _ (by simp -implicitDefEqProofs only [go_sem, simprocAttr, mkI, iV, mkQ, qV, fV, ofV, rV, mkR]) (m1 _) ?_
  simp -implicitDefEqProofs only [go_sem, simprocAttr, mkI, iV, mkQ, qV, fV, ofV, rV, mkR]
  refine wl_callV _ (by simp -implicitDefEqProofs only [go_sem, simprocAttr, mkI, iV, mkQ, qV, fV, ofV, rV, mkR]) (m2 _) ?_
  simp -implicitDefEqProofs only [go_sem, simprocAttr, mkI, iV, mkQ, qV, fV, ofV, rV, mkR]
  refine wl_callV _ (by simp -implicitDefEqProofs only [go_sem, simprocAttr, mkI, iV, mkQ, qV, fV, ofV, rV, mkR]) (m3 _) ?_
  simp -implicitDefEqProofs only [go_sem, simprocAttr, mkI, iV, mkQ, qV, fV, ofV, rV, mkR]
  refine wl_callV _ (by simp -implicitDefEqProofs only [go_sem, simprocAttr, mkI, iV, mkQ, qV, fV, ofV, rV, mkR]) (m4 _) ?_
  simp -implicitDefEqProofs only [go_sem, simprocAttr, mkI, iV, mkQ, qV, fV, ofV, rV, mkR]
  refine wl_callV _ (by simp -implicitDefEqProofs only [go_sem, simprocAttr, mkI, iV, mkQ, qV, fV, ofV, rV, mkR, s4]) (r1 _) ?_
  simp -implicitDefEqProofs only [go_sem, simprocAttr, mkI, iV, mkQ, qV, fV, ofV, rV, mkR, s4]
  simp -implicitDefEqProofs only [go_sem, simprocAttr, mkI, iV, mkQ, qV, fV, ofV, rV, mkR, res106, s4]
  first | exact .app _ _ | exact ⟨.app _ _, rfl⟩ | exact .refl _ | exact ⟨.refl _, rfl⟩
theorem mulRQ (H : Heap) {v w : Value} {a b : Rat} {k k' : Nat} (hv : QV v a k) (hw : QV w b k') (hk : k ≤ 600000) (hk' : k' ≤ 600000) : Sim Tryz.prog 105 #[v, w] H (mkQ (a * b)) H := by
  refine flat_ex rfl ?_
  obtain ⟨K, hK⟩ : ∃ K, K = 600000 := ⟨_, rfl⟩
  obtain ⟨g, n, d, rfl, rfl, h1, h2⟩ := QV.mono hv (k' := K) (by omega)
  obtain ⟨g', n', d', rfl, rfl, h3, h4⟩ := QV.mono hw (k' := K) (by omega)
  have d0 := dval_pos d
  have d0' := dval_pos d'
  have pA := fun H => partsR H (g := g) (n := n) (d := d) (by omega) (by omega)
  have pB := fun H => partsR H (g := g') (n := n') (d := d') (by omega) (by omega)
  have zP := ival_lt g h1
  have zD := dval_lt h2
  have zP' := ival_lt g' h3
  have zD' := dval_lt h4
  have law : qval g n d * qval g' n' d' = mkRat (ival g n * ival g' n') (dval d * dval d') := Rat.mkRat_mul_mkRat _ _ _ _
  rw [law]
  have sA := small_or g n d
  have sB := small_or g' n' d'
  have b1 := fun x1 => ival3 g (n := n) x1
  have b2 := fun x1 => dval3 (n := d) x1
  have b3 := fun x1 => ival3 g' (n := n') x1
  have b4 := fun x1 => dval3 (n := d') x1
  clear law
  generalize ival g n = P at *
  generalize dval d = D at *
  generalize ival g' n' = P' at *
  generalize dval d' = D' at *
  unfold qV at *
  have e1 := absmul zP zP'
  have e4 := absmul zD zD'
  have m1 := fun H => rMul H (IA.mk zP) (IA.mk zP') (by omega) (by omega)
  have m4 := fun H => rMul H (IA.mk zD) (IA.mk zD') (by omega) (by omega)
  have h0 : (D : Int) * (D' : Int) ≠ 0 := by have := Nat.mul_pos d0 d0'; rw [mulc]; omega
  have r1 := fun H => reduceR H (IA.mk e1) (IA.mk e4) (by omega) h0
  rw [divInt_pos (by have := Nat.mul_pos d0 d0'; rw [mulc]; omega), mulc, Int.natAbs_natCast] at r1
  rw [mulc] at m4
  clear e1 e4 zP zP' zD zD' 
  refine sim_ex tok mixed Tryz.func105 rfl (by kernel_rfl) (by kernel_rfl) (by simp only [Tryz.ntmps105, List.size_toArray, List.length_cons, List.length_nil]; omega) ?_
  simp -implicitDefEqProofs only [go_sem, simprocAttr, mkI, iV, mkQ, qV, fV, ofV, rV, mkR]
  apply shareK (M := fun s T => s 2 = .pointer (some ⟨H.length, 0, none⟩) ∧ s 3 = .pointer (some ⟨H.length + 1, 0, none⟩) ∧ s 4 = .pointer (some ⟨H.length + 2, 0, none⟩) ∧ T = H ++ [⟨[.bool g, .string (bs n), .string (bs d)], 1, true⟩, ⟨[.bool g', .string (bs n'), .string (bs d')], 1, true⟩, ⟨[.bool false, .string (bs []), .string (bs [])], 1, true⟩])
  · intro hrest
    rcases sA with ⟨x1, x2, oA⟩ | oA
    · rcases sB with ⟨x3, x4, oB⟩ | oB
      · have b1 := b1 x1
        have b2 := b2 x2
        have b3 := b3 x3
        have b4 := b4 x4
        have p1 := prod3 (x := P) (y := P') b1 b3
        have p3 : D * D' ≤ 16777216 * 16777216 := Nat.mul_le_mul b2 b4
        have w1 : IntKind.i64.wrap (P * P') = P * P' := w64 (by omega) (by omega)
        have w4 : IntKind.i64.wrap ((D : Int) * (D' : Int)) = ((D * D' : Nat) : Int) := by rw [mulc, w64n (by omega)]
        have oP := fun H => packR H (n := P * P') (d := D * D') (by omega) (by omega) (Nat.mul_pos d0 d0')
        refine wl_callV _ (by simp -implicitDefEqProofs only [go_sem, simprocAttr, mkI, iV, mkQ, qV, fV, ofV, rV, mkR]) (oA _) ?_
        simp -implicitDefEqProofs only [go_sem, simprocAttr, mkI, iV, mkQ, qV, fV, ofV, rV, mkR]
        refine wl_callV _ (by simp -implicitDefEqProofs only [go_sem, simprocAttr, mkI, iV, mkQ, qV, fV, ofV, rV, mkR, wa_cond, axC_t, axC_f, w1, w4]) (oB _) ?_
        simp -implicitDefEqProofs only [go_sem, simprocAttr, mkI, iV, mkQ, qV, fV, ofV, rV, mkR, wa_cond, axC_t, axC_f, w1, w4]
        refine wl_callV _ (by simp -implicitDefEqProofs only [go_sem, simprocAttr, mkI, iV, mkQ, qV, fV, ofV, rV, mkR]) (oP _) ?_
        simp -implicitDefEqProofs only [go_sem, simprocAttr, mkI, iV, mkQ, qV, fV, ofV, rV, mkR]
        simp -implicitDefEqProofs only [go_sem, simprocAttr, mkI, iV, mkQ, qV, fV, ofV, rV, mkR, res105]
        first | exact .app _ _ | exact ⟨.app _ _, rfl⟩ | exact .refl _ | exact ⟨.refl _, rfl⟩
      · refine wl_callV _ (by simp -implicitDefEqProofs only [go_sem, simprocAttr, mkI, iV, mkQ, qV, fV, ofV, rV, mkR]) (oA _) ?_
        simp -implicitDefEqProofs only [go_sem, simprocAttr, mkI, iV, mkQ, qV, fV, ofV, rV, mkR]
        refine wl_callV _ (by simp -implicitDefEqProofs only [go_sem, simprocAttr, mkI, iV, mkQ, qV, fV, ofV, rV, mkR]) (oB _) ?_
        simp -implicitDefEqProofs only [go_sem, simprocAttr, mkI, iV, mkQ, qV, fV, ofV, rV, mkR]
        refine ax_mid _ ?_ hrest
        simp -implicitDefEqProofs only [go_sem, simprocAttr, mkI, iV, mkQ, qV, fV, ofV, rV, mkR, wa_cond, axC_t, axC_f]
    · obtain ⟨y1, y2, y3, oB⟩ : ∃ y1 y2 y3, ∀ H, Sim Tryz.prog 168 #[.agg #[.bool g', .string (bs n'), .string (bs d')]] H (.tuple #[.int .i64 y1, .int .i64 y2, .bool y3]) H := by
        rcases sB with ⟨_, _, oB⟩ | oB
        · exact ⟨_, _, _, oB⟩
        · exact ⟨_, _, _, oB⟩
      refine wl_callV _ (by simp -implicitDefEqProofs only [go_sem, simprocAttr, mkI, iV, mkQ, qV, fV, ofV, rV, mkR]) (oA _) ?_
      simp -implicitDefEqProofs only [go_sem, simprocAttr, mkI, iV, mkQ, qV, fV, ofV, rV, mkR]
      refine wl_callV _ (by simp -implicitDefEqProofs only [go_sem, simprocAttr, mkI, iV, mkQ, qV, fV, ofV, rV, mkR]) (oB _) ?_
      simp -implicitDefEqProofs only [go_sem, simprocAttr, mkI, iV, mkQ, qV, fV, ofV, rV, mkR]
      refine ax_mid _ ?_ hrest
      simp -implicitDefEqProofs only [go_sem, simprocAttr, mkI, iV, mkQ, qV, fV, ofV, rV, mkR, wa_cond, axC_t, axC_f]
  rintro s T ⟨s2, s3, s4, rfl⟩
  simp -implicitDefEqProofs only [go_sem, simprocAttr, mkI, iV, mkQ, qV, fV, ofV, rV, mkR, s2, s3]
  refine wl_callV _ (by simp -implicitDefEqProofs only [go_sem, simprocAttr, mkI, iV, mkQ, qV, fV, ofV, rV, mkR, s2, s3]) (pA _) ?_
  simp -implicitDefEqProofs only [go_sem, simprocAttr, mkI, iV, mkQ, qV, fV, ofV, rV, mkR, s2, s3]
  refine wl_callV _ (by simp -implicitDefEqProofs only [go_sem, simprocAttr, mkI, iV, mkQ, qV, fV, ofV, rV, mkR, s2, s3]) (pB _) ?_
  simp -implicitDefEqProofs only [go_sem, simprocAttr, mkI, iV, mkQ, qV, fV, ofV, rV, mkR, s2, s3]
  refine ax_quiet (by kernel_rfl) ?_
  simp -implicitDefEqProofs only [go_sem, simprocAttr, mkI, iV, mkQ, qV, fV, ofV, rV, mkR]
  refine wl_callV _ (by simp -implicitDefEqProofs only [go_sem, simprocAttr, mkI, iV, mkQ, qV, fV, ofV, rV, mkR]) (m1 _) ?_
  simp -implicitDefEqProofs only [go_sem, simprocAttr, mkI, iV, mkQ, qV, fV, ofV, rV, mkR]
  refine wl_callV _ (by simp -implicitDefEqProofs only [go_sem, simprocAttr, mkI, iV, mkQ, qV, fV, ofV, rV, mkR]) (m4 _) ?_
  simp -implicitDefEqProofs only [go_sem, simprocAttr, mkI, iV, mkQ, qV, fV, ofV, rV, mkR]
  refine wl_callV _ (by simp -implicitDefEqProofs only [go_sem, simprocAttr, mkI, iV, mkQ, qV, fV, ofV, rV, mkR, s4]) (r1 _) ?_
  simp -implicitDefEqProofs only [go_sem, simprocAttr, mkI, iV, mkQ, qV, fV, ofV, rV, mkR, s4]
  simp -implicitDefEqProofs only [go_sem, simprocAttr, mkI, iV, mkQ, qV, fV, ofV, rV, mkR, res105, s4]
  first | exact .app _ _ | exact ⟨.app _ _, rfl⟩ | exact .refl _ | exact ⟨.refl _, rfl⟩
theorem cmpRQ (H : Heap) {v w : Value} {a b : Rat} {k k' : Nat} (hv : QV v a k) (hw : QV w b k') (hk : k ≤ 600000) (hk' : k' ≤ 600000) : Sim Tryz.prog 111 #[v, w] H (.int .i64 (cmpQ a b)) H := by
  refine flat_ex rfl ?_
  obtain ⟨K, hK⟩ : ∃ K, K = 600000 := ⟨_, rfl⟩
  obtain ⟨g, n, d, rfl, rfl, h1, h2⟩ := QV.mono hv (k' := K) (by omega)
  obtain ⟨g', n', d', rfl, rfl, h3, h4⟩ := QV.mono hw (k' := K) (by omega)
  have d0 := dval_pos d
  have d0' := dval_pos d'
  have pA := fun H => partsR H (g := g) (n := n) (d := d) (by omega) (by omega)
  have pB := fun H => partsR H (g := g') (n := n') (d := d') (by omega) (by omega)
  have zP := ival_lt g h1
  have zD := dval_lt h2
  have zP' := ival_lt g' h3
  have zD' := dval_lt h4
  have law : cmpQ (qval g n d) (qval g' n' d') = sgn (ival g n * (dval d' : Nat) - ival g' n' * (dval d : Nat)) := cmpQ_eq d0 d0'
  rw [law]
  have sA := small_or g n d
  have sB := small_or g' n' d'
  have b1 := fun x1 => ival3 g (n := n) x1
  have b2 := fun x1 => dval3 (n := d) x1
  have b3 := fun x1 => ival3 g' (n := n') x1
  have b4 := fun x1 => dval3 (n := d') x1
  clear law
  generalize ival g n = P at *
  generalize dval d = D at *
  generalize ival g' n' = P' at *
  generalize dval d' = D' at *
  unfold qV at *
  have e1 := absmul zP zD'
  have e2 := absmul zP' zD
  have m1 := fun H => rMul H (IA.mk zP) (IA.mk zD') (by omega) (by omega)
  have m2 := fun H => rMul H (IA.mk zP') (IA.mk zD) (by omega) (by omega)
  have m3 := fun H => rCmp H (IA.mk e1) (IA.mk e2)
  clear e1 e2 zP zP' zD zD' 
  refine sim_ex tok mixed Tryz.func111 rfl (by kernel_rfl) (by kernel_rfl) (by simp only [Tryz.ntmps111, List.size_toArray, List.length_cons, List.length_nil]; omega) ?_
  simp -implicitDefEqProofs only [go_sem, simprocAttr, mkI, iV, mkQ, qV, fV, ofV, rV, mkR]
  apply shareK (M := fun s T => s 2 = .pointer (some ⟨H.length, 0, none⟩) ∧ s 3 = .pointer (some ⟨H.length + 1, 0, none⟩) ∧ T = H ++ [⟨[.bool g, .string (bs n), .string (bs d)], 1, true⟩, ⟨[.bool g', .string (bs n'), .string (bs d')], 1, true⟩])
  · intro hrest
    rcases sA with ⟨x1, x2, oA⟩ | oA
    · rcases sB with ⟨x3, x4, oB⟩ | oB
      · have b1 := b1 x1
        have b2 := b2 x2
        have b3 := b3 x3
        have b4 := b4 x4
        have p1 := prod3 (x := P) (y := (D' : Int)) b1 (by omega)
        have p2 := prod3 (x := P') (y := (D : Int)) b3 (by omega)
        clear m1 m2 m3 hrest
        obtain ⟨x, hx⟩ : ∃ x : Int, P * (D' : Int) = x := ⟨_, rfl⟩
        obtain ⟨y, hy⟩ : ∃ x : Int, P' * (D : Int) = x := ⟨_, rfl⟩
        rw [hx, hy]
        have w1 : IntKind.i64.wrap (P * (D' : Int)) = x := by rw [hx] at p1 ⊢; exact w64 (by omega) (by omega)
        have w2 : IntKind.i64.wrap (P' * (D : Int)) = y := by rw [hy] at p2 ⊢; exact w64 (by omega) (by omega)
        by_cases h1 : x < y
        · rw [sgn_neg (by omega)]
          refine wl_callV _ (by simp -implicitDefEqProofs only [go_sem, simprocAttr, mkI, iV, mkQ, qV, fV, ofV, rV, mkR]) (oA _) ?_
          simp -implicitDefEqProofs only [go_sem, simprocAttr, mkI, iV, mkQ, qV, fV, ofV, rV, mkR]
          refine wl_callV _ (by simp -implicitDefEqProofs only [go_sem, simprocAttr, mkI, iV, mkQ, qV, fV, ofV, rV, mkR, wa_cond, axC_t, axC_f, w1, w2, h1]) (oB _) ?_
          simp -implicitDefEqProofs only [go_sem, simprocAttr, mkI, iV, mkQ, qV, fV, ofV, rV, mkR, wa_cond, axC_t, axC_f, w1, w2, h1]
          simp -implicitDefEqProofs only [go_sem, simprocAttr, mkI, iV, mkQ, qV, fV, ofV, rV, mkR, res111]
          first | exact .app _ _ | exact ⟨.app _ _, rfl⟩ | exact .refl _ | exact ⟨.refl _, rfl⟩
        · by_cases h2 : y < x
          · rw [sgn_pos (by omega)]
            refine wl_callV _ (by simp -implicitDefEqProofs only [go_sem, simprocAttr, mkI, iV, mkQ, qV, fV, ofV, rV, mkR]) (oA _) ?_
            simp -implicitDefEqProofs only [go_sem, simprocAttr, mkI, iV, mkQ, qV, fV, ofV, rV, mkR]
            refine wl_callV _ (by simp -implicitDefEqProofs only [go_sem, simprocAttr, mkI, iV, mkQ, qV, fV, ofV, rV, mkR, wa_cond, axC_t, axC_f, w1, w2, h1, h2]) (oB _) ?_
            simp -implicitDefEqProofs only [go_sem, simprocAttr, mkI, iV, mkQ, qV, fV, ofV, rV, mkR, wa_cond, axC_t, axC_f, w1, w2, h1, h2]
            simp -implicitDefEqProofs only [go_sem, simprocAttr, mkI, iV, mkQ, qV, fV, ofV, rV, mkR, res111]
            first | exact .app _ _ | exact ⟨.app _ _, rfl⟩ | exact .refl _ | exact ⟨.refl _, rfl⟩
          · rw [sgn_zero.2 (by omega)]
            refine wl_callV _ (by simp -implicitDefEqProofs only [go_sem, simprocAttr, mkI, iV, mkQ, qV, fV, ofV, rV, mkR]) (oA _) ?_
            simp -implicitDefEqProofs only [go_sem, simprocAttr, mkI, iV, mkQ, qV, fV, ofV, rV, mkR]
            refine wl_callV _ (by simp -implicitDefEqProofs only [go_sem, simprocAttr, mkI, iV, mkQ, qV, fV, ofV, rV, mkR, wa_cond, axC_t, axC_f, w1, w2, h1, h2]) (oB _) ?_
            simp -implicitDefEqProofs only [go_sem, simprocAttr, mkI, iV, mkQ, qV, fV, ofV, rV, mkR, wa_cond, axC_t, axC_f, w1, w2, h1, h2]
            simp -implicitDefEqProofs only [go_sem, simprocAttr, mkI, iV, mkQ, qV, fV, ofV, rV, mkR, res111]
            first | exact .app _ _ | exact ⟨.app _ _, rfl⟩ | exact .refl _ | exact ⟨.refl _, rfl⟩
      · refine wl_callV _ (by simp -implicitDefEqProofs only [go_sem, simprocAttr, mkI, iV, mkQ, qV, fV, ofV, rV, mkR]) (oA _) ?_
        simp -implicitDefEqProofs only [go_sem, simprocAttr, mkI, iV, mkQ, qV, fV, ofV, rV, mkR]
        refine wl_callV _ (by simp -implicitDefEqProofs only [go_sem, simprocAttr, mkI, iV, mkQ, qV, fV, ofV, rV, mkR]) (oB _) ?_
        simp -implicitDefEqProofs only [go_sem, simprocAttr, mkI, iV, mkQ, qV, fV, ofV, rV, mkR]
        refine ax_mid _ ?_ hrest
        simp -implicitDefEqProofs only [go_sem, simprocAttr, mkI, iV, mkQ, qV, fV, ofV, rV, mkR, wa_cond, axC_t, axC_f]
    · obtain ⟨y1, y2, y3, oB⟩ : ∃ y1 y2 y3, ∀ H, Sim Tryz.prog 168 #[.agg #[.bool g', .string (bs n'), .string (bs d')]] H (.tuple #[.int .i64 y1, .int .i64 y2, .bool y3]) H := by
        rcases sB with ⟨_, _, oB⟩ | oB
        · exact ⟨_, _, _, oB⟩
        · exact ⟨_, _, _, oB⟩
      refine wl_callV _ (by simp -implicitDefEqProofs only [go_sem, simprocAttr, mkI, iV, mkQ, qV, fV, ofV, rV, mkR]) (oA _) ?_
      simp -implicitDefEqProofs only [go_sem, simprocAttr, mkI, iV, mkQ, qV, fV, ofV, rV, mkR]
      refine wl_callV _ (by simp -implicitDefEqProofs only [go_sem, simprocAttr, mkI, iV, mkQ, qV, fV, ofV, rV, mkR]) (oB _) ?_
      simp -implicitDefEqProofs only [go_sem, simprocAttr, mkI, iV, mkQ, qV, fV, ofV, rV, mkR]
      refine ax_mid _ ?_ hrest
      simp -implicitDefEqProofs only [go_sem, simprocAttr, mkI, iV, mkQ, qV, fV, ofV, rV, mkR, wa_cond, axC_t, axC_f]
  rintro s T ⟨s2, s3, rfl⟩
  simp -implicitDefEqProofs only [go_sem, simprocAttr, mkI, iV, mkQ, qV, fV, ofV, rV, mkR, s2, s3]
  refine wl_callV _ (by simp -implicitDefEqProofs only [go_sem, simprocAttr, mkI, iV, mkQ, qV, fV, ofV, rV, mkR, s2, s3]) (pA _) ?_
  simp -implicitDefEqProofs only [go_sem, simprocAttr, mkI, iV, mkQ, qV, fV, ofV, rV, mkR, s2, s3]
  refine wl_callV _ (by simp -implicitDefEqProofs only [go_sem, simprocAttr, mkI, iV, mkQ, qV, fV, ofV, rV, mkR, s2, s3]) (pB _) ?_
  simp -implicitDefEqProofs only [go_sem, simprocAttr, mkI, iV, mkQ, qV, fV, ofV, rV, mkR, s2, s3]
  refine ax_quiet (by kernel_rfl) ?_
  simp -implicitDefEqProofs only [go_sem, simprocAttr, mkI, iV, mkQ, qV, fV, ofV, rV, mkR]
  refine wl_callV _ (by simp -implicitDefEqProofs only [go_sem, simprocAttr, mkI, iV, mkQ, qV, fV, ofV, rV, mkR]) (m1 _) ?_
  simp -implicitDefEqProofs only [go_sem, simprocAttr, mkI, iV, mkQ, qV, fV, ofV, rV, mkR]
  refine wl_callV _ (by simp -implicitDefEqProofs only [go_sem, simprocAttr, mkI, iV, mkQ, qV, fV, ofV, rV, mkR]) (m2 _) ?_
  simp -implicitDefEqProofs only [go_sem, simprocAttr, mkI, iV, mkQ, qV, fV, ofV, rV, mkR]
  refine wl_callV _ (by simp -implicitDefEqProofs only [go_sem, simprocAttr, mkI, iV, mkQ, qV, fV, ofV, rV, mkR]) (m3 _) ?_
  simp -implicitDefEqProofs only [go_sem, simprocAttr, mkI, iV, mkQ, qV, fV, ofV, rV, mkR]
  simp -implicitDefEqProofs only [go_sem, simprocAttr, mkI, iV, mkQ, qV, fV, ofV, rV, mkR, res111]
  first | exact .app _ _ | exact ⟨.app _ _, rfl⟩ | exact .refl _ | exact ⟨.refl _, rfl⟩
end Go.Proofs.YthhmkaikopdmjaaGreat
namespace Go.Proofs.YthhmkaikopdmjaaGreat
open Go Go.Fw
theorem signRQ (H : Heap) {v : Value} {q : Rat} {k : Nat} (hv : QV v q k) (hk : k ≤ 600000) : Sim Tryz.prog 189 #[v] H (.int .i64 (cmpQ q 0)) H := by
  refine flat_ex rfl ?_
  have o1 := fun H => cmpRQ H hv (QV.raw false [] [] (k := 8) (by decide) (by decide)) hk (by decide)
  have e0 : qval false [] [] = 0 := by unfold qval; rw [show ival false [] = 0 from rfl, Rat.zero_mkRat]
  rw [e0] at o1
  obtain ⟨g, n, d, rfl, rfl, h1, h2⟩ := hv
  generalize cmpQ (qval g n d) 0 = c at *
  unfold qV at *
  refine sim_ex tok mixed Tryz.func189 rfl (by kernel_rfl) (by kernel_rfl) (by simp only [Tryz.ntmps189, List.size_toArray, List.length_cons, List.length_nil]; omega) ?_
  simp -implicitDefEqProofs only [go_sem, simprocAttr, mkI, iV, mkQ, qV, fV, ofV, rV, mkR]
  refine wl_callV _ (by simp -implicitDefEqProofs only [go_sem, simprocAttr, mkI, iV, mkQ, qV, fV, ofV, rV, mkR]) (o1 _) ?_
  simp -implicitDefEqProofs only [go_sem, simprocAttr, mkI, iV, mkQ, qV, fV, ofV, rV, mkR]
  simp -implicitDefEqProofs only [go_sem, simprocAttr, mkI, iV, mkQ, qV, fV, ofV, rV, mkR, res189]
  first | exact .app _ _ | exact ⟨.app _ _, rfl⟩ | exact .refl _ | exact ⟨.refl _, rfl⟩
theorem subRQ (H : Heap) {v w : Value} {a b : Rat} {k k' : Nat} (hv : QV v a k) (hw : QV w b k') (hk : k ≤ 600000) (hk' : k' ≤ 600000) : Sim Tryz.prog 108 #[v, w] H (mkQ (a - b)) H := by
  refine flat_ex rfl ?_
  obtain ⟨g', n', d', rfl, rfl, h3, h4⟩ := hw
  have o1 := fun H => addRQ H hv (QV.raw (!g') n' d' h3 h4) hk hk'
  rw [qval_not, ← Rat.sub_eq_add_neg] at o1
  obtain ⟨g, n, d, rfl, rfl, h1, h2⟩ := hv
  generalize qval g n d - qval g' n' d' = q at *
  unfold qV at o1 ⊢
  refine sim_ex tok mixed Tryz.func108 rfl (by kernel_rfl) (by kernel_rfl) (by simp only [Tryz.ntmps108, List.size_toArray, List.length_cons, List.length_nil]; omega) ?_
  simp -implicitDefEqProofs only [go_sem, simprocAttr, mkI, iV, mkQ, qV, fV, ofV, rV, mkR]
  refine wl_callV _ (by simp -implicitDefEqProofs only [go_sem, simprocAttr, mkI, iV, mkQ, qV, fV, ofV, rV, mkR]) (o1 _) ?_
  simp -implicitDefEqProofs only [go_sem, simprocAttr, mkI, iV, mkQ, qV, fV, ofV, rV, mkR]
  simp -implicitDefEqProofs only [go_sem, simprocAttr, mkI, iV, mkQ, qV, fV, ofV, rV, mkR, res108]
  first | exact .app _ _ | exact ⟨.app _ _, rfl⟩ | exact .refl _ | exact ⟨.refl _, rfl⟩
end Go.Proofs.YthhmkaikopdmjaaGreat
namespace Go.Proofs.YthhmkaikopdmjaaGreat
open Go Go.Fw
end Go.Proofs.YthhmkaikopdmjaaGreat
namespace Go.Proofs.YthhmkaikopdmjaaGreat
open Go Go.Fw
theorem back4 (H : Heap) {r : RR} {k : Nat} (hr : r.le k) (hk : k ≤ 100000) : Sim Tryz.prog 122 #[r.val] H (.agg #[.bool r.g, .string (bs r.n), .string (bs r.d), .bool (decide ((-r.rot.s).num < 0)), .string (bs (digB (-r.rot.s).num.natAbs)), .string (bs (denB (-r.rot.s).den))]) H := by
  refine flat_ex rfl ?_
  have o1 := fun H => negRQ H hr.s (by omega)
  generalize -r.rot.s = z at *
  unfold qV at o1
  unfold RR.val rV
  refine sim_ex tok mixed Tryz.func122 rfl (by kernel_rfl) (by kernel_rfl) (by simp only [Tryz.ntmps122, List.size_toArray, List.length_cons, List.length_nil]; omega) ?_
  simp -implicitDefEqProofs only [go_sem, simprocAttr, mkI, iV, mkQ, qV, fV, ofV, rV, mkR]
  refine ax_quiet (by kernel_rfl) ?_
  simp -implicitDefEqProofs only [go_sem, simprocAttr, mkI, iV, mkQ, qV, fV, ofV, rV, mkR]
  refine wl_callV _ (by simp -implicitDefEqProofs only [go_sem, simprocAttr, mkI, iV, mkQ, qV, fV, ofV, rV, mkR]) (o1 _) ?_
  simp -implicitDefEqProofs only [go_sem, simprocAttr, mkI, iV, mkQ, qV, fV, ofV, rV, mkR]
  simp -implicitDefEqProofs only [go_sem, simprocAttr, mkI, iV, mkQ, qV, fV, ofV, rV, mkR, res122]
  first | exact .app _ _ | exact ⟨.app _ _, rfl⟩ | exact .refl _ | exact ⟨.refl _, rfl⟩
theorem then4 (H : Heap) {a b : RR} {k : Nat} (ha : a.le k) (hb : b.le k) (hk : k ≤ 20000) : Sim Tryz.prog 104 #[a.val, b.val] H (RR.of (a.rot.thn b.rot)).val H := by
  refine flat_ex rfl ?_
  have o1 := fun H => mulRQ H ha.c hb.c (by omega) (by omega)
  have o2 := fun H => mulRQ H ha.s hb.s (by omega) (by omega)
  have o3 := fun H => mulRQ H ha.s hb.c (by omega) (by omega)
  have o4 := fun H => mulRQ H ha.c hb.s (by omega) (by omega)
  have q1 := (ha.c.sz.mul hb.c.sz).qv
  have q2 := (ha.s.sz.mul hb.s.sz).qv
  have q3 := (ha.s.sz.mul hb.c.sz).qv
  have q4 := (ha.c.sz.mul hb.s.sz).qv
  have s1 := fun H => subRQ H q1 q2 (by omega) (by omega)
  have s2 := fun H => addRQ H q3 q4 (by omega) (by omega)
  have e1 : a.rot.c * b.rot.c - a.rot.s * b.rot.s = (a.rot.thn b.rot).c := rfl
  have e2 : a.rot.s * b.rot.c + a.rot.c * b.rot.s = (a.rot.thn b.rot).s := rfl
  rw [e1] at s1
  rw [e2] at s2
  rw [RR.of_val]
  generalize (a.rot.thn b.rot).c = x at *
  generalize (a.rot.thn b.rot).s = y at *
  clear q1 q2 q3 q4 e1 e2
  generalize a.rot.c * b.rot.c = p1 at *
  generalize a.rot.s * b.rot.s = p2 at *
  generalize a.rot.s * b.rot.c = p3 at *
  generalize a.rot.c * b.rot.s = p4 at *
  unfold qV at o1 o2 o3 o4
  unfold RR.val rV
  refine sim_ex tok mixed Tryz.func104 rfl (by kernel_rfl) (by kernel_rfl) (by simp only [Tryz.ntmps104, List.size_toArray, List.length_cons, List.length_nil]; omega) ?_
  simp -implicitDefEqProofs only [go_sem, simprocAttr, mkI, iV, mkQ, qV, fV, ofV, rV, mkR]
  refine ax_quiet (by kernel_rfl) ?_
  simp -implicitDefEqProofs only [go_sem, simprocAttr, mkI, iV, mkQ, qV, fV, ofV, rV, mkR]
  refine wl_callV _ (by simp -implicitDefEqProofs only [go_sem, simprocAttr, mkI, iV, mkQ, qV, fV, ofV, rV, mkR]) (o1 _) ?_
  simp -implicitDefEqProofs only [go_sem, simprocAttr, mkI, iV, mkQ, qV, fV, ofV, rV, mkR]
  refine wl_callV _ (by simp -implicitDefEqProofs only [go_sem, simprocAttr, mkI, iV, mkQ, qV, fV, ofV, rV, mkR]) (o2 _) ?_
  simp -implicitDefEqProofs only [go_sem, simprocAttr, mkI, iV, mkQ, qV, fV, ofV, rV, mkR]
  refine wl_callV _ (by simp -implicitDefEqProofs only [go_sem, simprocAttr, mkI, iV, mkQ, qV, fV, ofV, rV, mkR]) (s1 _) ?_
  simp -implicitDefEqProofs only [go_sem, simprocAttr, mkI, iV, mkQ, qV, fV, ofV, rV, mkR]
  refine wl_callV _ (by simp -implicitDefEqProofs only [go_sem, simprocAttr, mkI, iV, mkQ, qV, fV, ofV, rV, mkR]) (o3 _) ?_
  simp -implicitDefEqProofs only [go_sem, simprocAttr, mkI, iV, mkQ, qV, fV, ofV, rV, mkR]
  refine wl_callV _ (by simp -implicitDefEqProofs only [go_sem, simprocAttr, mkI, iV, mkQ, qV, fV, ofV, rV, mkR]) (o4 _) ?_
  simp -implicitDefEqProofs only [go_sem, simprocAttr, mkI, iV, mkQ, qV, fV, ofV, rV, mkR]
  refine wl_callV _ (by simp -implicitDefEqProofs only [go_sem, simprocAttr, mkI, iV, mkQ, qV, fV, ofV, rV, mkR]) (s2 _) ?_
  simp -implicitDefEqProofs only [go_sem, simprocAttr, mkI, iV, mkQ, qV, fV, ofV, rV, mkR]
  simp -implicitDefEqProofs only [go_sem, simprocAttr, mkI, iV, mkQ, qV, fV, ofV, rV, mkR, res104]
  first | exact .app _ _ | exact ⟨.app _ _, rfl⟩ | exact .refl _ | exact ⟨.refl _, rfl⟩
theorem upper4 (H : Heap) {r : RR} {k : Nat} (hr : r.le k) (hk : k ≤ 600000) (hok : r.rot.ok) : Sim Tryz.prog 123 #[r.val] H (.bool (decide (r.rot.half = 0))) H := by
  refine flat_ex rfl ?_
  have o1 := fun H => signRQ H hr.c hk
  have o2 := fun H => signRQ H hr.s hk
  unfold qV at o1 o2
  unfold RR.val rV
  have hc := cmpQ_cases r.rot.c 0
  have hs := cmpQ_cases r.rot.s 0
  have hh : (r.rot.half = 0) ↔ (0 < r.rot.s ∨ (r.rot.s = 0 ∧ 0 < r.rot.c)) := by
    unfold Rot.ok at hok
    unfold Rot.half
    by_cases h1 : 0 < r.rot.s
    · simp [h1]
    · by_cases h2 : r.rot.s < 0
      · rw [if_neg h1, if_pos h2]
        constructor
        · intro h; exact absurd h (by decide)
        · rintro (h | ⟨h, _⟩) <;> grind
      · have h3 : r.rot.s = 0 := by grind
        by_cases h4 : r.rot.c < 0
        · rw [if_neg h1, if_neg h2, if_pos h4]
          constructor
          · intro h; exact absurd h (by decide)
          · rintro (h | ⟨_, h⟩) <;> grind
        · rw [if_neg h1, if_neg h2, if_neg h4]
          simp only [true_iff]
          right
          refine ⟨h3, ?_⟩
          have : r.rot.c ≠ 0 := fun h5 => by rw [h3, h5] at hok; exact absurd hok (by decide +kernel)
          grind
  clear hok
  generalize cmpQ r.rot.c 0 = x at *
  generalize cmpQ r.rot.s 0 = y at *
  rcases hs with ⟨rfl, hs⟩ | ⟨rfl, hs⟩ | ⟨rfl, hs⟩
  · rw [decide_eq_false (fun h => by rcases hh.1 h with h | ⟨h, _⟩ <;> grind)]
    refine sim_ex tok mixed Tryz.func123 rfl (by kernel_rfl) (by kernel_rfl) (by simp only [Tryz.ntmps123, List.size_toArray, List.length_cons, List.length_nil]; omega) ?_
    simp -implicitDefEqProofs only [go_sem, simprocAttr, mkI, iV, mkQ, qV, fV, ofV, rV, mkR]
    refine wl_callV _ (by simp -implicitDefEqProofs only [go_sem, simprocAttr, mkI, iV, mkQ, qV, fV, ofV, rV, mkR]) (o2 _) ?_
    simp -implicitDefEqProofs only [go_sem, simprocAttr, mkI, iV, mkQ, qV, fV, ofV, rV, mkR]
    simp -implicitDefEqProofs only [go_sem, simprocAttr, mkI, iV, mkQ, qV, fV, ofV, rV, mkR, res123]
    first | exact .app _ _ | exact ⟨.app _ _, rfl⟩ | exact .refl _ | exact ⟨.refl _, rfl⟩
  · rcases hc with ⟨rfl, hc⟩ | ⟨rfl, hc⟩ | ⟨rfl, hc⟩
    · rw [decide_eq_false (fun h => by rcases hh.1 h with h | ⟨_, h⟩ <;> grind)]
      refine sim_ex tok mixed Tryz.func123 rfl (by kernel_rfl) (by kernel_rfl) (by simp only [Tryz.ntmps123, List.size_toArray, List.length_cons, List.length_nil]; omega) ?_
      simp -implicitDefEqProofs only [go_sem, simprocAttr, mkI, iV, mkQ, qV, fV, ofV, rV, mkR]
      refine wl_callV _ (by simp -implicitDefEqProofs only [go_sem, simprocAttr, mkI, iV, mkQ, qV, fV, ofV, rV, mkR]) (o2 _) ?_
      simp -implicitDefEqProofs only [go_sem, simprocAttr, mkI, iV, mkQ, qV, fV, ofV, rV, mkR]
      refine wl_callV _ (by simp -implicitDefEqProofs only [go_sem, simprocAttr, mkI, iV, mkQ, qV, fV, ofV, rV, mkR]) (o1 _) ?_
      simp -implicitDefEqProofs only [go_sem, simprocAttr, mkI, iV, mkQ, qV, fV, ofV, rV, mkR]
      simp -implicitDefEqProofs only [go_sem, simprocAttr, mkI, iV, mkQ, qV, fV, ofV, rV, mkR, res123]
      first | exact .app _ _ | exact ⟨.app _ _, rfl⟩ | exact .refl _ | exact ⟨.refl _, rfl⟩
    · rw [decide_eq_false (fun h => by rcases hh.1 h with h | ⟨_, h⟩ <;> grind)]
      refine sim_ex tok mixed Tryz.func123 rfl (by kernel_rfl) (by kernel_rfl) (by simp only [Tryz.ntmps123, List.size_toArray, List.length_cons, List.length_nil]; omega) ?_
      simp -implicitDefEqProofs only [go_sem, simprocAttr, mkI, iV, mkQ, qV, fV, ofV, rV, mkR]
      refine wl_callV _ (by simp -implicitDefEqProofs only [go_sem, simprocAttr, mkI, iV, mkQ, qV, fV, ofV, rV, mkR]) (o2 _) ?_
      simp -implicitDefEqProofs only [go_sem, simprocAttr, mkI, iV, mkQ, qV, fV, ofV, rV, mkR]
      refine wl_callV _ (by simp -implicitDefEqProofs only [go_sem, simprocAttr, mkI, iV, mkQ, qV, fV, ofV, rV, mkR]) (o1 _) ?_
      simp -implicitDefEqProofs only [go_sem, simprocAttr, mkI, iV, mkQ, qV, fV, ofV, rV, mkR]
      simp -implicitDefEqProofs only [go_sem, simprocAttr, mkI, iV, mkQ, qV, fV, ofV, rV, mkR, res123]
      first | exact .app _ _ | exact ⟨.app _ _, rfl⟩ | exact .refl _ | exact ⟨.refl _, rfl⟩
    · rw [decide_eq_true (hh.2 (.inr ⟨hs, hc⟩))]
      refine sim_ex tok mixed Tryz.func123 rfl (by kernel_rfl) (by kernel_rfl) (by simp only [Tryz.ntmps123, List.size_toArray, List.length_cons, List.length_nil]; omega) ?_
      simp -implicitDefEqProofs only [go_sem, simprocAttr, mkI, iV, mkQ, qV, fV, ofV, rV, mkR]
      refine wl_callV _ (by simp -implicitDefEqProofs only [go_sem, simprocAttr, mkI, iV, mkQ, qV, fV, ofV, rV, mkR]) (o2 _) ?_
      simp -implicitDefEqProofs only [go_sem, simprocAttr, mkI, iV, mkQ, qV, fV, ofV, rV, mkR]
      refine wl_callV _ (by simp -implicitDefEqProofs only [go_sem, simprocAttr, mkI, iV, mkQ, qV, fV, ofV, rV, mkR]) (o1 _) ?_
      simp -implicitDefEqProofs only [go_sem, simprocAttr, mkI, iV, mkQ, qV, fV, ofV, rV, mkR]
      simp -implicitDefEqProofs only [go_sem, simprocAttr, mkI, iV, mkQ, qV, fV, ofV, rV, mkR, res123]
      first | exact .app _ _ | exact ⟨.app _ _, rfl⟩ | exact .refl _ | exact ⟨.refl _, rfl⟩
  · rw [decide_eq_true (hh.2 (.inl hs))]
    refine sim_ex tok mixed Tryz.func123 rfl (by kernel_rfl) (by kernel_rfl) (by simp only [Tryz.ntmps123, List.size_toArray, List.length_cons, List.length_nil]; omega) ?_
    simp -implicitDefEqProofs only [go_sem, simprocAttr, mkI, iV, mkQ, qV, fV, ofV, rV, mkR]
    refine wl_callV _ (by simp -implicitDefEqProofs only [go_sem, simprocAttr, mkI, iV, mkQ, qV, fV, ofV, rV, mkR]) (o2 _) ?_
    simp -implicitDefEqProofs only [go_sem, simprocAttr, mkI, iV, mkQ, qV, fV, ofV, rV, mkR]
    simp -implicitDefEqProofs only [go_sem, simprocAttr, mkI, iV, mkQ, qV, fV, ofV, rV, mkR, res123]
    first | exact .app _ _ | exact ⟨.app _ _, rfl⟩ | exact .refl _ | exact ⟨.refl _, rfl⟩
theorem compare4 (H : Heap) {a b : RR} {k : Nat} (ha : a.le k) (hb : b.le k) (hk : k ≤ 19000) (oka : a.rot.ok) (okb : b.rot.ok) : Sim Tryz.prog 174 #[a.val, b.val] H (.int .i64 (a.rot.cmp b.rot)) H := by
  refine flat_ex rfl ?_
  have o1 := fun H => upper4 H ha (by omega) oka
  have o2 := fun H => upper4 H hb (by omega) okb
  have o3 := fun H => back4 H hb (by omega)
  have o4 := fun H => then4 H hb.bk (ha.mono (show k ≤ k + 8 by omega)) (by omega)
  have o5 := fun H => signRQ H ((hb.bk.sz.thn ha.sz).s.qv) (by omega)
  rw [RR.bk_rot] at o4 o5
  have h1 := a.rot.half_le
  have h2 := b.rot.half_le
  unfold Rot.cmp
  generalize a.rot.half = x at *
  generalize b.rot.half = y at *
  rw [RR.of_val] at o4
  by_cases h0 : x - y ≠ 0
  · rw [if_pos h0]
    clear o3 o4 o5
    unfold RR.val rV at o1 o2 ⊢
    rcases h1 with rfl | rfl
    · have hy : y = 1 := by omega
      subst hy
      simp only [decide_true, show decide ((1 : Int) = 0) = false from rfl] at o1 o2
      refine sim_ex tok mixed Tryz.func174 rfl (by kernel_rfl) (by kernel_rfl) (by simp only [Tryz.ntmps174, List.size_toArray, List.length_cons, List.length_nil]; omega) ?_
      simp -implicitDefEqProofs only [go_sem, simprocAttr, mkI, iV, mkQ, qV, fV, ofV, rV, mkR]
      refine ax_quiet (by kernel_rfl) ?_
      simp -implicitDefEqProofs only [go_sem, simprocAttr, mkI, iV, mkQ, qV, fV, ofV, rV, mkR]
      refine wl_callV _ (by simp -implicitDefEqProofs only [go_sem, simprocAttr, mkI, iV, mkQ, qV, fV, ofV, rV, mkR]) (o1 _) ?_
      simp -implicitDefEqProofs only [go_sem, simprocAttr, mkI, iV, mkQ, qV, fV, ofV, rV, mkR]
      refine wl_callV _ (by simp -implicitDefEqProofs only [go_sem, simprocAttr, mkI, iV, mkQ, qV, fV, ofV, rV, mkR, bne4, show (true == false) = false from rfl, wa_cond, axC_t, axC_f]) (o2 _) ?_
      simp -implicitDefEqProofs only [go_sem, simprocAttr, mkI, iV, mkQ, qV, fV, ofV, rV, mkR, bne4, show (true == false) = false from rfl, wa_cond, axC_t, axC_f]
      refine wl_callV _ (by simp -implicitDefEqProofs only [go_sem, simprocAttr, mkI, iV, mkQ, qV, fV, ofV, rV, mkR, wa_cond, axC_t, axC_f]) (o1 _) ?_
      simp -implicitDefEqProofs only [go_sem, simprocAttr, mkI, iV, mkQ, qV, fV, ofV, rV, mkR, wa_cond, axC_t, axC_f]
      simp -implicitDefEqProofs only [go_sem, simprocAttr, mkI, iV, mkQ, qV, fV, ofV, rV, mkR, res174]
      first | exact .app _ _ | exact ⟨.app _ _, rfl⟩ | exact .refl _ | exact ⟨.refl _, rfl⟩
    · have hy : y = 0 := by omega
      subst hy
      simp only [decide_true, show decide ((1 : Int) = 0) = false from rfl] at o1 o2
      refine sim_ex tok mixed Tryz.func174 rfl (by kernel_rfl) (by kernel_rfl) (by simp only [Tryz.ntmps174, List.size_toArray, List.length_cons, List.length_nil]; omega) ?_
      simp -implicitDefEqProofs only [go_sem, simprocAttr, mkI, iV, mkQ, qV, fV, ofV, rV, mkR]
      refine ax_quiet (by kernel_rfl) ?_
      simp -implicitDefEqProofs only [go_sem, simprocAttr, mkI, iV, mkQ, qV, fV, ofV, rV, mkR]
      refine wl_callV _ (by simp -implicitDefEqProofs only [go_sem, simprocAttr, mkI, iV, mkQ, qV, fV, ofV, rV, mkR]) (o1 _) ?_
      simp -implicitDefEqProofs only [go_sem, simprocAttr, mkI, iV, mkQ, qV, fV, ofV, rV, mkR]
      refine wl_callV _ (by simp -implicitDefEqProofs only [go_sem, simprocAttr, mkI, iV, mkQ, qV, fV, ofV, rV, mkR, bne4, show (false == true) = false from rfl, wa_cond, axC_t, axC_f]) (o2 _) ?_
      simp -implicitDefEqProofs only [go_sem, simprocAttr, mkI, iV, mkQ, qV, fV, ofV, rV, mkR, bne4, show (false == true) = false from rfl, wa_cond, axC_t, axC_f]
      refine wl_callV _ (by simp -implicitDefEqProofs only [go_sem, simprocAttr, mkI, iV, mkQ, qV, fV, ofV, rV, mkR, wa_cond, axC_t, axC_f]) (o1 _) ?_
      simp -implicitDefEqProofs only [go_sem, simprocAttr, mkI, iV, mkQ, qV, fV, ofV, rV, mkR, wa_cond, axC_t, axC_f]
      simp -implicitDefEqProofs only [go_sem, simprocAttr, mkI, iV, mkQ, qV, fV, ofV, rV, mkR, res174]
      first | exact .app _ _ | exact ⟨.app _ _, rfl⟩ | exact .refl _ | exact ⟨.refl _, rfl⟩
  · rw [if_neg h0]
    have hxy : x = y := by omega
    subst hxy
    generalize decide (x = 0) = ub at *
    generalize cmpQ (b.rot.back.thn a.rot).s 0 = z at *
    generalize (b.rot.back.thn a.rot).s = ss at *
    generalize (b.rot.back.thn a.rot).c = cc at *
    unfold RR.bk at o4
    unfold RR.val rV at o1 o2 o3 o4 ⊢
    have hu : (ub == ub) = true := by simp
    refine sim_ex tok mixed Tryz.func174 rfl (by kernel_rfl) (by kernel_rfl) (by simp only [Tryz.ntmps174, List.size_toArray, List.length_cons, List.length_nil]; omega) ?_
    simp -implicitDefEqProofs only [go_sem, simprocAttr, mkI, iV, mkQ, qV, fV, ofV, rV, mkR]
    refine ax_quiet (by kernel_rfl) ?_
    simp -implicitDefEqProofs only [go_sem, simprocAttr, mkI, iV, mkQ, qV, fV, ofV, rV, mkR]
    refine wl_callV _ (by simp -implicitDefEqProofs only [go_sem, simprocAttr, mkI, iV, mkQ, qV, fV, ofV, rV, mkR]) (o1 _) ?_
    simp -implicitDefEqProofs only [go_sem, simprocAttr, mkI, iV, mkQ, qV, fV, ofV, rV, mkR]
    refine wl_callV _ (by simp -implicitDefEqProofs only [go_sem, simprocAttr, mkI, iV, mkQ, qV, fV, ofV, rV, mkR, bne4, hu, wa_cond, axC_t, axC_f]) (o2 _) ?_
    simp -implicitDefEqProofs only [go_sem, simprocAttr, mkI, iV, mkQ, qV, fV, ofV, rV, mkR, bne4, hu, wa_cond, axC_t, axC_f]
    refine ax_quiet (by kernel_rfl) ?_
    simp -implicitDefEqProofs only [go_sem, simprocAttr, mkI, iV, mkQ, qV, fV, ofV, rV, mkR]
    refine wl_callV _ (by simp -implicitDefEqProofs only [go_sem, simprocAttr, mkI, iV, mkQ, qV, fV, ofV, rV, mkR]) (o3 _) ?_
    simp -implicitDefEqProofs only [go_sem, simprocAttr, mkI, iV, mkQ, qV, fV, ofV, rV, mkR]
    refine wl_callV _ (by simp -implicitDefEqProofs only [go_sem, simprocAttr, mkI, iV, mkQ, qV, fV, ofV, rV, mkR, aField, partL]) (o4 _) ?_
    simp -implicitDefEqProofs only [go_sem, simprocAttr, mkI, iV, mkQ, qV, fV, ofV, rV, mkR, aField, partL]
    refine wl_callV _ (by simp -implicitDefEqProofs only [go_sem, simprocAttr, mkI, iV, mkQ, qV, fV, ofV, rV, mkR]) (o5 _) ?_
    simp -implicitDefEqProofs only [go_sem, simprocAttr, mkI, iV, mkQ, qV, fV, ofV, rV, mkR]
    simp -implicitDefEqProofs only [go_sem, simprocAttr, mkI, iV, mkQ, qV, fV, ofV, rV, mkR, res174]
    first | exact .app _ _ | exact ⟨.app _ _, rfl⟩ | exact .refl _ | exact ⟨.refl _, rfl⟩
theorem qcheck2 (H : Heap) {r : RR} {k : Nat} (hr : r.le k) (hk : k ≤ 100000) : (Sim Tryz.prog 110 #[.agg #[.bool r.g, .string (bs r.n), .string (bs r.d)]] H (.int .i64 (if isCan r.g r.n r.d = true then 0 else 1)) H) ∧
    Sim Tryz.prog 110 #[.agg #[.bool r.g', .string (bs r.n'), .string (bs r.d')]] H (.int .i64 (if isCan r.g' r.n' r.d' = true then 0 else 1)) H := by
  have h1 := hr.n
  have h2 := hr.d
  have h3 := hr.n'
  have h4 := hr.d'
  exact ⟨qcheckR H (by omega) (by omega), qcheckR H (by omega) (by omega)⟩
theorem check4 (H : Heap) {r : RR} {k : Nat} (hr : r.le k) (hk : k ≤ 20000) : Sim Tryz.prog 55 #[r.val] H (.int .i64 r.err) H := by
  refine flat_ex rfl ?_
  have c1 := fun H => (qcheck2 H hr (by omega)).1
  have c2 := fun H => (qcheck2 H hr (by omega)).2
  unfold RR.err
  unfold RR.val rV
  cases i1 : isCan r.g r.n r.d
  · simp only [i1, Bool.false_and, Bool.false_eq_true, if_false] at c1 ⊢
    refine sim_ex tok mixed Tryz.func55 rfl (by kernel_rfl) (by kernel_rfl) (by simp only [Tryz.ntmps55, List.size_toArray, List.length_cons, List.length_nil]; omega) ?_
    simp -implicitDefEqProofs only [go_sem, simprocAttr, mkI, iV, mkQ, qV, fV, ofV, rV, mkR]
    refine wl_callV _ (by simp -implicitDefEqProofs only [go_sem, simprocAttr, mkI, iV, mkQ, qV, fV, ofV, rV, mkR, wa_cond, axC_t, axC_f]) (c1 _) ?_
    simp -implicitDefEqProofs only [go_sem, simprocAttr, mkI, iV, mkQ, qV, fV, ofV, rV, mkR, wa_cond, axC_t, axC_f]
    simp -implicitDefEqProofs only [go_sem, simprocAttr, mkI, iV, mkQ, qV, fV, ofV, rV, mkR, res55]
    first | exact .app _ _ | exact ⟨.app _ _, rfl⟩ | exact .refl _ | exact ⟨.refl _, rfl⟩
  cases i2 : isCan r.g' r.n' r.d'
  · simp only [i1, i2, Bool.and_false, Bool.false_eq_true, if_false, if_true] at c1 c2 ⊢
    refine sim_ex tok mixed Tryz.func55 rfl (by kernel_rfl) (by kernel_rfl) (by simp only [Tryz.ntmps55, List.size_toArray, List.length_cons, List.length_nil]; omega) ?_
    simp -implicitDefEqProofs only [go_sem, simprocAttr, mkI, iV, mkQ, qV, fV, ofV, rV, mkR]
    refine wl_callV _ (by simp -implicitDefEqProofs only [go_sem, simprocAttr, mkI, iV, mkQ, qV, fV, ofV, rV, mkR, wa_cond, axC_t, axC_f]) (c1 _) ?_
    simp -implicitDefEqProofs only [go_sem, simprocAttr, mkI, iV, mkQ, qV, fV, ofV, rV, mkR, wa_cond, axC_t, axC_f]
    refine wl_callV _ (by simp -implicitDefEqProofs only [go_sem, simprocAttr, mkI, iV, mkQ, qV, fV, ofV, rV, mkR, wa_cond, axC_t, axC_f]) (c2 _) ?_
    simp -implicitDefEqProofs only [go_sem, simprocAttr, mkI, iV, mkQ, qV, fV, ofV, rV, mkR, wa_cond, axC_t, axC_f]
    simp -implicitDefEqProofs only [go_sem, simprocAttr, mkI, iV, mkQ, qV, fV, ofV, rV, mkR, res55]
    first | exact .app _ _ | exact ⟨.app _ _, rfl⟩ | exact .refl _ | exact ⟨.refl _, rfl⟩
  simp only [i1, i2, Bool.and_true, if_true] at c1 c2 ⊢
  have o1 := fun H => mulRQ H hr.c hr.c (by omega) (by omega)
  have o2 := fun H => mulRQ H hr.s hr.s (by omega) (by omega)
  have q1 := (hr.c.sz.mul hr.c.sz)
  have q2 := (hr.s.sz.mul hr.s.sz)
  have s1 := fun H => addRQ H q1.qv q2.qv (by omega) (by omega)
  have o3 := fun H => ofNR H (n := 1) (by decide) (by decide)
  rw [show ((1 : Int) : Rat) = 1 from rfl] at o3
  have o4 := fun H => cmpRQ H (q1.add q2).qv (sz_one (k := 2) (by decide)).qv (by omega) (by decide)
  have hok : r.rot.ok ↔ r.rot.c * r.rot.c + r.rot.s * r.rot.s = 1 := Iff.rfl
  clear q1 q2
  generalize r.rot.c * r.rot.c + r.rot.s * r.rot.s = z at *
  generalize r.rot.c * r.rot.c = p1 at *
  generalize r.rot.s * r.rot.s = p2 at *
  have hz := cmpQ_cases z 1
  unfold qV at o1 o2
  by_cases h0 : r.rot.ok
  · have hc : cmpQ z 1 = 0 := by have := hok.1 h0; grind
    simp only [h0, if_true]
    rw [hc] at o4
    clear hz hc hok
    refine sim_ex tok mixed Tryz.func55 rfl (by kernel_rfl) (by kernel_rfl) (by simp only [Tryz.ntmps55, List.size_toArray, List.length_cons, List.length_nil]; omega) ?_
    simp -implicitDefEqProofs only [go_sem, simprocAttr, mkI, iV, mkQ, qV, fV, ofV, rV, mkR]
    refine wl_callV _ (by simp -implicitDefEqProofs only [go_sem, simprocAttr, mkI, iV, mkQ, qV, fV, ofV, rV, mkR, wa_cond, axC_t, axC_f]) (c1 _) ?_
    simp -implicitDefEqProofs only [go_sem, simprocAttr, mkI, iV, mkQ, qV, fV, ofV, rV, mkR, wa_cond, axC_t, axC_f]
    refine wl_callV _ (by simp -implicitDefEqProofs only [go_sem, simprocAttr, mkI, iV, mkQ, qV, fV, ofV, rV, mkR, wa_cond, axC_t, axC_f]) (c2 _) ?_
    simp -implicitDefEqProofs only [go_sem, simprocAttr, mkI, iV, mkQ, qV, fV, ofV, rV, mkR, wa_cond, axC_t, axC_f]
    refine ax_quiet (by kernel_rfl) ?_
    simp -implicitDefEqProofs only [go_sem, simprocAttr, mkI, iV, mkQ, qV, fV, ofV, rV, mkR]
    refine wl_callV _ (by simp -implicitDefEqProofs only [go_sem, simprocAttr, mkI, iV, mkQ, qV, fV, ofV, rV, mkR]) (o1 _) ?_
    simp -implicitDefEqProofs only [go_sem, simprocAttr, mkI, iV, mkQ, qV, fV, ofV, rV, mkR]
    refine wl_callV _ (by simp -implicitDefEqProofs only [go_sem, simprocAttr, mkI, iV, mkQ, qV, fV, ofV, rV, mkR]) (o2 _) ?_
    simp -implicitDefEqProofs only [go_sem, simprocAttr, mkI, iV, mkQ, qV, fV, ofV, rV, mkR]
    refine wl_callV _ (by simp -implicitDefEqProofs only [go_sem, simprocAttr, mkI, iV, mkQ, qV, fV, ofV, rV, mkR]) (s1 _) ?_
    simp -implicitDefEqProofs only [go_sem, simprocAttr, mkI, iV, mkQ, qV, fV, ofV, rV, mkR]
    refine wl_callV _ (by simp -implicitDefEqProofs only [go_sem, simprocAttr, mkI, iV, mkQ, qV, fV, ofV, rV, mkR]) (o3 _) ?_
    simp -implicitDefEqProofs only [go_sem, simprocAttr, mkI, iV, mkQ, qV, fV, ofV, rV, mkR]
    refine wl_callV _ (by simp -implicitDefEqProofs only [go_sem, simprocAttr, mkI, iV, mkQ, qV, fV, ofV, rV, mkR, wa_cond, axC_t, axC_f]) (o4 _) ?_
    simp -implicitDefEqProofs only [go_sem, simprocAttr, mkI, iV, mkQ, qV, fV, ofV, rV, mkR, wa_cond, axC_t, axC_f]
    simp -implicitDefEqProofs only [go_sem, simprocAttr, mkI, iV, mkQ, qV, fV, ofV, rV, mkR, res55]
    first | exact .app _ _ | exact ⟨.app _ _, rfl⟩ | exact .refl _ | exact ⟨.refl _, rfl⟩
  · have hc : ¬ cmpQ z 1 = 0 := by have : ¬ z = 1 := fun h => h0 (hok.2 h); grind
    simp only [h0, if_false]
    generalize cmpQ z 1 = cz at *
    clear hz hok
    refine sim_ex tok mixed Tryz.func55 rfl (by kernel_rfl) (by kernel_rfl) (by simp only [Tryz.ntmps55, List.size_toArray, List.length_cons, List.length_nil]; omega) ?_
    simp -implicitDefEqProofs only [go_sem, simprocAttr, mkI, iV, mkQ, qV, fV, ofV, rV, mkR]
    refine wl_callV _ (by simp -implicitDefEqProofs only [go_sem, simprocAttr, mkI, iV, mkQ, qV, fV, ofV, rV, mkR, wa_cond, axC_t, axC_f]) (c1 _) ?_
    simp -implicitDefEqProofs only [go_sem, simprocAttr, mkI, iV, mkQ, qV, fV, ofV, rV, mkR, wa_cond, axC_t, axC_f]
    refine wl_callV _ (by simp -implicitDefEqProofs only [go_sem, simprocAttr, mkI, iV, mkQ, qV, fV, ofV, rV, mkR, wa_cond, axC_t, axC_f]) (c2 _) ?_
    simp -implicitDefEqProofs only [go_sem, simprocAttr, mkI, iV, mkQ, qV, fV, ofV, rV, mkR, wa_cond, axC_t, axC_f]
    refine ax_quiet (by kernel_rfl) ?_
    simp -implicitDefEqProofs only [go_sem, simprocAttr, mkI, iV, mkQ, qV, fV, ofV, rV, mkR]
    refine wl_callV _ (by simp -implicitDefEqProofs only [go_sem, simprocAttr, mkI, iV, mkQ, qV, fV, ofV, rV, mkR]) (o1 _) ?_
    simp -implicitDefEqProofs only [go_sem, simprocAttr, mkI, iV, mkQ, qV, fV, ofV, rV, mkR]
    refine wl_callV _ (by simp -implicitDefEqProofs only [go_sem, simprocAttr, mkI, iV, mkQ, qV, fV, ofV, rV, mkR]) (o2 _) ?_
    simp -implicitDefEqProofs only [go_sem, simprocAttr, mkI, iV, mkQ, qV, fV, ofV, rV, mkR]
    refine wl_callV _ (by simp -implicitDefEqProofs only [go_sem, simprocAttr, mkI, iV, mkQ, qV, fV, ofV, rV, mkR]) (s1 _) ?_
    simp -implicitDefEqProofs only [go_sem, simprocAttr, mkI, iV, mkQ, qV, fV, ofV, rV, mkR]
    refine wl_callV _ (by simp -implicitDefEqProofs only [go_sem, simprocAttr, mkI, iV, mkQ, qV, fV, ofV, rV, mkR]) (o3 _) ?_
    simp -implicitDefEqProofs only [go_sem, simprocAttr, mkI, iV, mkQ, qV, fV, ofV, rV, mkR]
    refine wl_callV _ (by simp -implicitDefEqProofs only [go_sem, simprocAttr, mkI, iV, mkQ, qV, fV, ofV, rV, mkR, hc, wa_cond, axC_t, axC_f]) (o4 _) ?_
    simp -implicitDefEqProofs only [go_sem, simprocAttr, mkI, iV, mkQ, qV, fV, ofV, rV, mkR, hc, wa_cond, axC_t, axC_f]
    simp -implicitDefEqProofs only [go_sem, simprocAttr, mkI, iV, mkQ, qV, fV, ofV, rV, mkR, res55]
    first | exact .app _ _ | exact ⟨.app _ _, rfl⟩ | exact .refl _ | exact ⟨.refl _, rfl⟩
end Go.Proofs.YthhmkaikopdmjaaGreat
namespace Go.Proofs.YthhmkaikopdmjaaGreat
open Go Go.Fw
theorem Compare4 (H : Heap) {a b : RR} {k : Nat} (ha : a.le k) (hb : b.le k) (hk : k ≤ 19000) :
    Sim Tryz.prog 112 #[a.val, b.val] H (if a.err ≠ 0 ∨ b.err ≠ 0 then .tuple #[.int .i64 0, .int .i64 1] else .tuple #[.int .i64 (a.rot.cmp b.rot), .int .i64 0]) H := by
  refine flat_ex (by split <;> rfl) ?_
  have c1 := fun H => check4 H ha (by omega)
  have c2 := fun H => check4 H hb (by omega)
  by_cases h1 : a.err = 0
  · by_cases h2 : b.err = 0
    · rw [if_neg (by simp [h1, h2])]
      have o1 := fun H => compare4 H ha hb hk (RR.err_zero.1 h1).2 (RR.err_zero.1 h2).2
      generalize a.rot.cmp b.rot = z at *
      unfold RR.val rV at c1 c2 o1 ⊢
      refine sim_ex tok mixed Tryz.func112 rfl (by kernel_rfl) (by kernel_rfl) (by simp only [Tryz.ntmps112, List.size_toArray, List.length_cons, List.length_nil]; omega) ?_
      simp -implicitDefEqProofs only [go_sem, simprocAttr, mkI, iV, mkQ, qV, fV, ofV, rV, mkR]
      refine wl_callV _ (by simp -implicitDefEqProofs only [go_sem, simprocAttr, mkI, iV, mkQ, qV, fV, ofV, rV, mkR, h1, wa_cond, axC_t, axC_f]) (c1 _) ?_
      simp -implicitDefEqProofs only [go_sem, simprocAttr, mkI, iV, mkQ, qV, fV, ofV, rV, mkR, h1, wa_cond, axC_t, axC_f]
      refine wl_callV _ (by simp -implicitDefEqProofs only [go_sem, simprocAttr, mkI, iV, mkQ, qV, fV, ofV, rV, mkR, h2, wa_cond, axC_t, axC_f]) (c2 _) ?_
      simp -implicitDefEqProofs only [go_sem, simprocAttr, mkI, iV, mkQ, qV, fV, ofV, rV, mkR, h2, wa_cond, axC_t, axC_f]
      refine wl_callV _ (by simp -implicitDefEqProofs only [go_sem, simprocAttr, mkI, iV, mkQ, qV, fV, ofV, rV, mkR]) (o1 _) ?_
      simp -implicitDefEqProofs only [go_sem, simprocAttr, mkI, iV, mkQ, qV, fV, ofV, rV, mkR]
      simp -implicitDefEqProofs only [go_sem, simprocAttr, mkI, iV, mkQ, qV, fV, ofV, rV, mkR, res112]
      first | exact .app _ _ | exact ⟨.app _ _, rfl⟩ | exact .refl _ | exact ⟨.refl _, rfl⟩
    · rw [if_pos (.inr h2)]
      unfold RR.val rV at c1 c2 ⊢
      refine sim_ex tok mixed Tryz.func112 rfl (by kernel_rfl) (by kernel_rfl) (by simp only [Tryz.ntmps112, List.size_toArray, List.length_cons, List.length_nil]; omega) ?_
      simp -implicitDefEqProofs only [go_sem, simprocAttr, mkI, iV, mkQ, qV, fV, ofV, rV, mkR]
      refine wl_callV _ (by simp -implicitDefEqProofs only [go_sem, simprocAttr, mkI, iV, mkQ, qV, fV, ofV, rV, mkR, h1, wa_cond, axC_t, axC_f]) (c1 _) ?_
      simp -implicitDefEqProofs only [go_sem, simprocAttr, mkI, iV, mkQ, qV, fV, ofV, rV, mkR, h1, wa_cond, axC_t, axC_f]
      refine wl_callV _ (by simp -implicitDefEqProofs only [go_sem, simprocAttr, mkI, iV, mkQ, qV, fV, ofV, rV, mkR, h2, wa_cond, axC_t, axC_f]) (c2 _) ?_
      simp -implicitDefEqProofs only [go_sem, simprocAttr, mkI, iV, mkQ, qV, fV, ofV, rV, mkR, h2, wa_cond, axC_t, axC_f]
      simp -implicitDefEqProofs only [go_sem, simprocAttr, mkI, iV, mkQ, qV, fV, ofV, rV, mkR, res112]
      first | exact .app _ _ | exact ⟨.app _ _, rfl⟩ | exact .refl _ | exact ⟨.refl _, rfl⟩
  · rw [if_pos (.inl h1)]
    unfold RR.val rV at c1 c2 ⊢
    refine sim_ex tok mixed Tryz.func112 rfl (by kernel_rfl) (by kernel_rfl) (by simp only [Tryz.ntmps112, List.size_toArray, List.length_cons, List.length_nil]; omega) ?_
    simp -implicitDefEqProofs only [go_sem, simprocAttr, mkI, iV, mkQ, qV, fV, ofV, rV, mkR]
    refine wl_callV _ (by simp -implicitDefEqProofs only [go_sem, simprocAttr, mkI, iV, mkQ, qV, fV, ofV, rV, mkR, h1, wa_cond, axC_t, axC_f]) (c1 _) ?_
    simp -implicitDefEqProofs only [go_sem, simprocAttr, mkI, iV, mkQ, qV, fV, ofV, rV, mkR, h1, wa_cond, axC_t, axC_f]
    simp -implicitDefEqProofs only [go_sem, simprocAttr, mkI, iV, mkQ, qV, fV, ofV, rV, mkR, res112]
    first | exact .app _ _ | exact ⟨.app _ _, rfl⟩ | exact .refl _ | exact ⟨.refl _, rfl⟩
end Go.Proofs.YthhmkaikopdmjaaGreat
namespace Go.Proofs.YthhmkaikopdmjaaGreat
open Go Go.Fw
theorem less4 (H : Heap) {a b : RR} {k : Nat} (ha : a.le k) (hb : b.le k) (hk : k ≤ 19000) : Sim Tryz.prog 57 #[a.val, b.val] H (.bool (decide (cmpS a b < 0))) H := by
  refine flat_ex rfl ?_
  obtain ⟨e, o1⟩ : ∃ e : Int, ∀ H, Sim Tryz.prog 112 #[a.val, b.val] H (.tuple #[.int .i64 (cmpS a b), .int .i64 e]) H := by
    unfold cmpS
    by_cases h : a.err ≠ 0 ∨ b.err ≠ 0
    · refine ⟨1, fun H => ?_⟩
      have := Compare4 H ha hb hk
      rw [if_pos h] at this ⊢
      exact this
    · refine ⟨0, fun H => ?_⟩
      have := Compare4 H ha hb hk
      rw [if_neg h] at this ⊢
      exact this
  generalize cmpS a b = z at *
  unfold RR.val rV at o1 ⊢
  refine sim_ex tok mixed Tryz.func57 rfl (by kernel_rfl) (by kernel_rfl) (by simp only [Tryz.ntmps57, List.size_toArray, List.length_cons, List.length_nil]; omega) ?_
  simp -implicitDefEqProofs only [go_sem, simprocAttr, mkI, iV, mkQ, qV, fV, ofV, rV, mkR]
  refine wl_callV _ (by simp -implicitDefEqProofs only [go_sem, simprocAttr, mkI, iV, mkQ, qV, fV, ofV, rV, mkR]) (o1 _) ?_
  simp -implicitDefEqProofs only [go_sem, simprocAttr, mkI, iV, mkQ, qV, fV, ofV, rV, mkR]
  simp -implicitDefEqProofs only [go_sem, simprocAttr, mkI, iV, mkQ, qV, fV, ofV, rV, mkR, res57]
  first | exact .app _ _ | exact ⟨.app _ _, rfl⟩ | exact .refl _ | exact ⟨.refl _, rfl⟩
theorem cmpS_swap (a b : RR) : (cmpS a b ≤ 0) ↔ ¬ cmpS b a < 0 := by
  unfold cmpS
  by_cases h : a.err ≠ 0 ∨ b.err ≠ 0
  · rw [if_pos h, if_pos h.symm]; omega
  · rw [if_neg h, if_neg (fun h2 => h h2.symm)]
    have := @Rot.cmp_pos a.rot b.rot
    constructor
    · intro h1 h2; have := this.2 h2; omega
    · intro h1; refine Classical.byContradiction fun h2 => h1 (this.1 (by omega))
theorem Check45 (H : Heap) {v : Value} {l : List RR} {k : Nat} (hv : RL H v l) (hle : ∀ r ∈ l, r.le k) (hk : k ≤ 19000) (hl : l.length ≤ 1000000) : Sim Tryz.prog 18 #[v] H (.int .i64 (chkR l)) H := by
  refine flat_ex rfl ?_
  have e1 := hv.len (tt := tt) tt22
  unfold chkR
  refine sim_ex tok mixed Tryz.func18 rfl (by kernel_rfl) (by kernel_rfl) (by simp only [Tryz.ntmps18, List.size_toArray, List.length_cons, List.length_nil]; omega) ?_
  by_cases h0 : l = []
  · rw [if_pos h0]
    have h1 : (l.length : Int) = 0 := by rw [h0]; rfl
    simp -implicitDefEqProofs only [go_sem, simprocAttr, wa_cond, axC_t, axC_f, e1, h1, res18]
    exact .refl _
  rw [if_neg h0]
  have hl0 := List.length_pos_iff.2 h0
  have h1 : ¬ (l.length : Int) = 0 := by omega
  by_cases h64 : 64 < l.length
  · rw [if_pos h64]
    have h2 : (64 : Int) < (l.length : Int) := by omega
    simp -implicitDefEqProofs only [go_sem, simprocAttr, wa_cond, axC_t, axC_f, e1, h1, h2, res18]
    exact .refl _
  rw [if_neg h64]
  have h2 : ¬ (64 : Int) < (l.length : Int) := by omega
  simp -implicitDefEqProofs only [go_sem, simprocAttr, wa_cond, axC_t, axC_f, e1, h1, h2]
  obtain ⟨b, i0, c, rfl, hA⟩ := hv.at h0
  refine ax_loopx (fun (i : Nat) s T => ∃ G : Heap, s 0 = .slice (some ⟨b, i0, none⟩) l.length c ∧ s 3 = .int .i64 (i : Nat) ∧ i ≤ l.length ∧ chkFrom none l = chkFrom (prevR l i) (l.drop i) ∧ T = H ++ G) (fun i => l.length - i) 0 ?_ ?_
  · refine ⟨[], ?_⟩
    simp -implicitDefEqProofs only [go_sem, simprocAttr]
    rfl
  rintro i s T ⟨G, s0, s3, hi, hch, rfl⟩
  simp -implicitDefEqProofs only [go_sem, simprocAttr, s0, s3, e1]
  refine ax_cond2 ?_
  simp only [ev_tmp, ev_const, ev_func, upd_at, put_some, put_none, bndB_bool, Nat.reduceEqDiff, if_true, if_false, ↓reduceIte, reduceCtorEq]
  refine ⟨fun hc0 => have hlt := of_decide_eq_true hc0; ?_, fun hc0 => have hlt := of_decide_eq_false hc0; ?_⟩
  · have hil : i < l.length := by omega
    have r1 := fun G => rd_more (hA.rdR hil) G
    have hc := fun H => check4 H (hle _ (List.getElem_mem hil)) (by omega)
    have hdrop := List.drop_eq_getElem_cons hil
    have hx := hle _ (List.getElem_mem hil)
    have hnext : prevR l (i + 1) = some l[i] := by unfold prevR; rw [if_neg (by omega), Nat.add_sub_cancel, List.getElem?_eq_getElem hil]
    rw [hdrop] at hch
    have hnn : (0 : Int) ≤ (i : Int) := by omega
    have w1 : IntKind.i64.wrap ((i : Int) + 1) = ((i + 1 : Nat) : Int) := by rw [w64 (by omega) (by omega)]; rfl
    unfold RR.cells at r1
    unfold RR.val rV at hc
    have hcmp := fun p (hp : RR.le p k) H => less4 H hp hx hk
    unfold RR.val rV at hcmp
    generalize hxx : l[i] = x at *
    simp -implicitDefEqProofs only [go_sem, simprocAttr, s0, s3, aIndexAddr, hlt, hnn, r1]
    refine wl_callV _ (by simp -implicitDefEqProofs only [go_sem, simprocAttr]) (hc _) ?_
    by_cases he : x.err = 0
    case neg =>
      have hch2 : chkFrom none l = x.err := by rw [hch]; unfold chkFrom; rw [if_pos he]
      rw [hch2]
      simp -implicitDefEqProofs only [go_sem, simprocAttr, wa_cond, axC_t, axC_f, he, res18]
      exact .app _ _
    have hch2 : chkFrom none l = if (match prevR l i with | some p => decide (cmpS x p ≤ 0) | none => false) = true then 8 else chkFrom (some x) (l.drop (i + 1)) := by
      rw [hch]; conv => lhs; unfold chkFrom
      rw [if_neg (by simpa using he)]
      rfl
    simp -implicitDefEqProofs only [go_sem, simprocAttr, wa_cond, axC_t, axC_f, he]
    refine ax_quiet (by kernel_rfl) ?_
    by_cases hi0 : i = 0
    · subst hi0
      have hi1 : ¬ (0 : Int) < ((0 : Nat) : Int) := by decide
      have e2 : prevR l 0 = none := rfl
      rw [e2] at hch2
      simp -implicitDefEqProofs only [go_sem, simprocAttr, wa_cond, axC_t, axC_f, s0, s3, hi1, w1]
      refine ⟨1, ⟨G, ?_⟩, by omega⟩
      rw [hch2, hnext]
      ((repeat' apply And.intro) <;> first | rfl | assumption | omega)
    · obtain ⟨j, rfl⟩ : ∃ j, i = j + 1 := ⟨i - 1, by omega⟩
      have hj : j < l.length := by omega
      have hi1 : (0 : Int) < ((j + 1 : Nat) : Int) := by omega
      have wj : IntKind.i64.wrap (((j + 1 : Nat) : Int) - 1) = (j : Int) := by rw [castS]; exact w64 (by omega) (by omega)
      have r2 := fun G => rd_more (hA.rdR hj) G
      have hp := hle _ (List.getElem_mem hj)
      have e2 : prevR l (j + 1) = some l[j] := by unfold prevR; rw [if_neg (by omega), Nat.add_sub_cancel, List.getElem?_eq_getElem hj]
      rw [e2] at hch2
      simp only at hch2
      unfold RR.cells at r2
      have hcm := hcmp _ hp
      generalize l[j] = p at *
      have hsw := cmpS_swap x p
      have hjn : (0 : Int) ≤ (j : Int) := by omega
      have hjl : (j : Int) < (l.length : Int) := by omega
      by_cases hle0 : cmpS x p ≤ 0
      · rw [if_pos (by simpa using hle0)] at hch2
        rw [hch2]
        rw [decide_eq_false (hsw.1 hle0)] at hcm
        simp -implicitDefEqProofs only [go_sem, simprocAttr, s0, s3, hi1, wj, aIndexAddr, hjn, hjl, hnn, hlt, r1, r2]
        refine wl_callV _ (by simp -implicitDefEqProofs only [go_sem, simprocAttr]) (hcm _) ?_
        simp -implicitDefEqProofs only [go_sem, simprocAttr, wa_cond, axC_t, axC_f, res18]
        exact .app _ _
      · rw [if_neg (by simpa using hle0)] at hch2
        rw [decide_eq_true (Classical.byContradiction fun h => hle0 (hsw.2 h))] at hcm
        simp -implicitDefEqProofs only [go_sem, simprocAttr, s0, s3, hi1, wj, aIndexAddr, hjn, hjl, hnn, hlt, r1, r2]
        refine wl_callV _ (by simp -implicitDefEqProofs only [go_sem, simprocAttr]) (hcm _) ?_
        simp -implicitDefEqProofs only [go_sem, simprocAttr, wa_cond, axC_t, axC_f, s0, s3, w1]
        refine ⟨j + 1 + 1, ⟨G, ?_⟩, by omega⟩
        rw [hch2, hnext]
        ((repeat' apply And.intro) <;> first | rfl | assumption | omega)
  · have hil : i = l.length := by omega
    subst hil
    rw [List.drop_length] at hch
    have : chkFrom none l = 0 := by rw [hch]; unfold chkFrom; rfl
    rw [this]
    simp -implicitDefEqProofs only [go_sem, simprocAttr, res18]
    exact .app _ _
def RR.long (r : RR) : Bool := decide (8 < r.n.length) || decide (8 < r.d.length) || decide (8 < r.n'.length) || decide (8 < r.d'.length)
theorem RR.long_le {r : RR} (h : RR.long r = false) : r.le 64 := by
  unfold RR.long at h
  simp only [Bool.or_eq_false_iff, decide_eq_false_iff_not] at h
  exact ⟨by omega, by omega, by omega, by omega⟩
theorem Long45 (H : Heap) (r : RR) : Sim Tryz.prog 42 #[r.val] H (.bool (RR.long r)) H := by
  refine flat_ex rfl ?_
  have c : ∀ n : Nat, ((8 : Int) < (n : Int)) ↔ 8 < n := fun n => by omega
  unfold RR.long RR.val rV
  by_cases h1 : 8 < r.n.length
  · rw [decide_eq_true h1]
    refine sim_ex tok mixed Tryz.func42 rfl (by kernel_rfl) (by kernel_rfl) (by simp only [Tryz.ntmps42, List.size_toArray, List.length_cons, List.length_nil]; omega) ?_
    simp -implicitDefEqProofs only [go_sem, simprocAttr, mkI, iV, mkQ, qV, fV, ofV, rV, mkR, aLen, c, h1, Bool.true_or]
    simp -implicitDefEqProofs only [go_sem, simprocAttr, mkI, iV, mkQ, qV, fV, ofV, rV, mkR, res42]
    first | exact .app _ _ | exact ⟨.app _ _, rfl⟩ | exact .refl _ | exact ⟨.refl _, rfl⟩
  rw [decide_eq_false h1]
  by_cases h2 : 8 < r.d.length
  · rw [decide_eq_true h2]
    refine sim_ex tok mixed Tryz.func42 rfl (by kernel_rfl) (by kernel_rfl) (by simp only [Tryz.ntmps42, List.size_toArray, List.length_cons, List.length_nil]; omega) ?_
    simp -implicitDefEqProofs only [go_sem, simprocAttr, mkI, iV, mkQ, qV, fV, ofV, rV, mkR, aLen, c, h1, h2, Bool.true_or, Bool.false_or]
    simp -implicitDefEqProofs only [go_sem, simprocAttr, mkI, iV, mkQ, qV, fV, ofV, rV, mkR, res42]
    first | exact .app _ _ | exact ⟨.app _ _, rfl⟩ | exact .refl _ | exact ⟨.refl _, rfl⟩
  rw [decide_eq_false h2]
  by_cases h3 : 8 < r.n'.length
  · rw [decide_eq_true h3]
    refine sim_ex tok mixed Tryz.func42 rfl (by kernel_rfl) (by kernel_rfl) (by simp only [Tryz.ntmps42, List.size_toArray, List.length_cons, List.length_nil]; omega) ?_
    simp -implicitDefEqProofs only [go_sem, simprocAttr, mkI, iV, mkQ, qV, fV, ofV, rV, mkR, aLen, c, h1, h2, h3, Bool.true_or, Bool.false_or]
    simp -implicitDefEqProofs only [go_sem, simprocAttr, mkI, iV, mkQ, qV, fV, ofV, rV, mkR, res42]
    first | exact .app _ _ | exact ⟨.app _ _, rfl⟩ | exact .refl _ | exact ⟨.refl _, rfl⟩
  rw [decide_eq_false h3]
  by_cases h4 : 8 < r.d'.length
  · rw [decide_eq_true h4]
    refine sim_ex tok mixed Tryz.func42 rfl (by kernel_rfl) (by kernel_rfl) (by simp only [Tryz.ntmps42, List.size_toArray, List.length_cons, List.length_nil]; omega) ?_
    simp -implicitDefEqProofs only [go_sem, simprocAttr, mkI, iV, mkQ, qV, fV, ofV, rV, mkR, aLen, c, h1, h2, h3, h4, Bool.true_or, Bool.false_or]
    simp -implicitDefEqProofs only [go_sem, simprocAttr, mkI, iV, mkQ, qV, fV, ofV, rV, mkR, res42]
    first | exact .app _ _ | exact ⟨.app _ _, rfl⟩ | exact .refl _ | exact ⟨.refl _, rfl⟩
  rw [decide_eq_false h4]
  refine sim_ex tok mixed Tryz.func42 rfl (by kernel_rfl) (by kernel_rfl) (by simp only [Tryz.ntmps42, List.size_toArray, List.length_cons, List.length_nil]; omega) ?_
  simp -implicitDefEqProofs only [go_sem, simprocAttr, mkI, iV, mkQ, qV, fV, ofV, rV, mkR, aLen, c, h1, h2, h3, h4, Bool.or_false]
  simp -implicitDefEqProofs only [go_sem, simprocAttr, mkI, iV, mkQ, qV, fV, ofV, rV, mkR, res42]
  first | exact .app _ _ | exact ⟨.app _ _, rfl⟩ | exact .refl _ | exact ⟨.refl _, rfl⟩
def lenBad (n : Nat) : Bool := decide (12 < n ∧ n < 31 ∨ 34 < n ∧ n < 63 ∨ 66 < n)
def greatB (l : List RR) : Bool := lenBad l.length || l.any RR.long
theorem Great45 (H : Heap) {v : Value} {l : List RR} (hv : RL H v l) : Sim Tryz.prog 41 #[v] H (.bool (greatB l)) H := by
  refine flat_ex rfl ?_
  have e1 := hv.len (tt := tt) tt22
  have c1 : ((12 : Int) < (l.length : Int)) ↔ 12 < l.length := by omega
  have c2 : ((l.length : Int) < 31) ↔ l.length < 31 := by omega
  have c3 : ((34 : Int) < (l.length : Int)) ↔ 34 < l.length := by omega
  have c4 : ((l.length : Int) < 63) ↔ l.length < 63 := by omega
  have c5 : ((66 : Int) < (l.length : Int)) ↔ 66 < l.length := by omega
  unfold greatB lenBad
  refine sim_ex tok mixed Tryz.func41 rfl (by kernel_rfl) (by kernel_rfl) (by simp only [Tryz.ntmps41, List.size_toArray, List.length_cons, List.length_nil]; omega) ?_
  by_cases h1 : 12 < l.length ∧ l.length < 31
  · rw [decide_eq_true (.inl h1)]
    simp -implicitDefEqProofs only [go_sem, simprocAttr, wa_cond, axC_t, axC_f, e1, c1, c2, h1.1, h1.2, Bool.true_or, res41]
    exact .refl _
  by_cases h2 : 34 < l.length ∧ l.length < 63
  · rw [decide_eq_true (.inr (.inl h2))]
    have d1 : 12 < l.length := by omega
    have d2 : ¬ l.length < 31 := by omega
    simp -implicitDefEqProofs only [go_sem, simprocAttr, wa_cond, axC_t, axC_f, e1, c1, c2, c3, c4, d1, d2, h2.1, h2.2, Bool.true_or, res41]
    exact .refl _
  by_cases h3 : 66 < l.length
  · rw [decide_eq_true (.inr (.inr h3))]
    have d1 : 12 < l.length := by omega
    have d2 : ¬ l.length < 31 := by omega
    have d3 : 34 < l.length := by omega
    have d4 : ¬ l.length < 63 := by omega
    simp -implicitDefEqProofs only [go_sem, simprocAttr, wa_cond, axC_t, axC_f, e1, c1, c2, c3, c4, c5, d1, d2, d3, d4, h3, Bool.true_or, res41]
    exact .refl _
  have hmain : ∀ (s : Slots) (T : Heap), s 0 = v → s 3 = .int .i64 (l.length : Nat) → T = H → True := fun _ _ _ _ _ => trivial
  clear hmain
  rw [decide_eq_false (by omega), Bool.false_or]
  have hcase : (¬ 12 < l.length ∧ ¬ 34 < l.length ∧ ¬ 66 < l.length) ∨ (12 < l.length ∧ ¬ l.length < 31 ∧ ¬ 34 < l.length ∧ ¬ 66 < l.length) ∨ (12 < l.length ∧ ¬ l.length < 31 ∧ 34 < l.length ∧ ¬ l.length < 63 ∧ ¬ 66 < l.length) := by omega
  apply shareK (M := fun s T => s 0 = v ∧ s 3 = .int .i64 (l.length : Nat) ∧ T = H)
  · intro hrest
    rcases hcase with ⟨d1, d2, d3⟩ | ⟨d1, d2, d3, d4⟩ | ⟨d1, d2, d3, d4, d5⟩
    · simp -implicitDefEqProofs only [go_sem, simprocAttr, e1, c1, c2, c3, c4, c5, d1, d2, d3]
      refine ax_mid _ ?_ hrest
      simp -implicitDefEqProofs only [go_sem, simprocAttr, wa_cond, axC_t, axC_f]
    · simp -implicitDefEqProofs only [go_sem, simprocAttr, e1, c1, c2, c3, c4, c5, d1, d2, d3, d4]
      refine ax_mid _ ?_ hrest
      simp -implicitDefEqProofs only [go_sem, simprocAttr, wa_cond, axC_t, axC_f]
    · simp -implicitDefEqProofs only [go_sem, simprocAttr, e1, c1, c2, c3, c4, c5, d1, d2, d3, d4, d5]
      refine ax_mid _ ?_ hrest
      simp -implicitDefEqProofs only [go_sem, simprocAttr, wa_cond, axC_t, axC_f]
  rintro s T ⟨s0, s3, rfl⟩
  simp -implicitDefEqProofs only [go_sem, simprocAttr, s0, s3]
  refine ax_loopx (fun (i : Nat) s T1 => s 0 = v ∧ s 3 = .int .i64 (l.length : Nat) ∧ s 4 = .int .i64 (i : Nat) ∧ i ≤ l.length ∧ l.any RR.long = (l.drop i).any RR.long ∧ T1 = T) (fun i => l.length - i) 0 ?_ ?_
  · simp -implicitDefEqProofs only [go_sem, simprocAttr, s0, s3]
  clear s0 s3
  rintro i s T1 ⟨s0, s3, s4, hi, ha, rfl⟩
  simp -implicitDefEqProofs only [go_sem, simprocAttr, s3, s4]
  refine ax_cond2 ?_
  simp only [ev_tmp, ev_const, ev_func, upd_at, put_some, put_none, bndB_bool, Nat.reduceEqDiff, if_true, if_false, ↓reduceIte, reduceCtorEq]
  refine ⟨fun hc0 => have hlt := of_decide_eq_true hc0; ?_, fun hc0 => have hlt := of_decide_eq_false hc0; ?_⟩
  · have hil : i < l.length := by omega
    obtain ⟨b, i0, c, rfl, hA⟩ := hv.at (fun h => by rw [h] at hil; simp at hil)
    have r1 := hA.rdR hil
    have o1 := fun H => Long45 H l[i]
    have hnn : (0 : Int) ≤ (i : Int) := by omega
    have hlt2 : (i : Int) < (l.length : Int) := by omega
    have w1 : IntKind.i64.wrap ((i : Int) + 1) = ((i + 1 : Nat) : Int) := by rw [w64 (by omega) (by omega)]; rfl
    rw [List.drop_eq_getElem_cons hil, List.any_cons] at ha
    generalize l[i] = x at *
    unfold RR.cells at r1
    unfold RR.val rV at o1
    simp -implicitDefEqProofs only [go_sem, simprocAttr, s0, s4, aIndexAddr, hnn, hlt2, r1]
    refine wl_callV _ (by simp -implicitDefEqProofs only [go_sem, simprocAttr]) (o1 _) ?_
    cases hx : RR.long x
    · rw [hx, Bool.false_or] at ha
      simp -implicitDefEqProofs only [go_sem, simprocAttr, wa_cond, axC_t, axC_f, s0, s3, s4, w1]
      refine ⟨i + 1, ?_, by omega⟩
      ((repeat' apply And.intro) <;> first | rfl | assumption | omega)
    · rw [hx, Bool.true_or] at ha
      rw [ha]
      simp -implicitDefEqProofs only [go_sem, simprocAttr, wa_cond, axC_t, axC_f, res41]
      exact .refl _
  · have : i = l.length := by omega
    subst this
    rw [List.drop_length] at ha
    rw [ha]
    simp -implicitDefEqProofs only [go_sem, simprocAttr, res41, List.any_nil]
    exact .refl _
end Go.Proofs.YthhmkaikopdmjaaGreat
namespace Go.Proofs.YthhmkaikopdmjaaGreat
open Go Go.Fw
theorem cmpS_zero {a b : RR} (ha : a.err = 0) (hb : b.err = 0) : cmpS a b = 0 ↔ a = b := by
  obtain ⟨ea, oa⟩ := RR.err_zero.1 ha
  obtain ⟨eb, ob⟩ := RR.err_zero.1 hb
  rw [cmpS_ok ha hb, Rot.cmp_zero oa ob]
  refine ⟨fun h => ?_, fun h => by rw [h]⟩
  rw [ea, eb, h]
theorem find_law {l : List RR} {r : RR} (ho : Ord l) (hr : r.err = 0) {i : Nat} (hi : i < l.length) (h : l[i] = r) : i = cntLess l r := by
  have h1 : ¬ i < cntLess l r := fun h1 => by
    have := cntLess_below l r i h1 hi
    rw [h, (cmpS_zero hr hr).2 rfl] at this; omega
  refine Nat.le_antisymm ?_ (by omega)
  refine Classical.byContradiction fun h2 => ?_
  have hq : cntLess l r < l.length := by omega
  have h3 := cntLess_above ho hr (cntLess l r) (Nat.le_refl _) hq
  have h4 := List.pairwise_iff_getElem.1 ho.ord (cntLess l r) i hq hi (by omega)
  rw [cmpS_ok (ho.ok _ (List.getElem_mem hq)) hr] at h3
  rw [h] at h4
  exact h3 h4
theorem has_law {l : List RR} {r : RR} (ho : Ord l) (hr : r.err = 0) : hasR l r = true ↔ ∃ h : cntLess l r < l.length, l[cntLess l r] = r := by
  unfold hasR
  by_cases h : cntLess l r < l.length
  · rw [List.getElem?_eq_getElem h]
    simp only [decide_eq_true_eq]
    rw [cmpS_zero (ho.ok _ (List.getElem_mem h)) hr]
    exact ⟨fun h2 => ⟨h, h2⟩, fun ⟨_, h2⟩ => h2⟩
  · rw [List.getElem?_eq_none (by omega)]
    simp [h]
def befI (n q : Nat) : Nat := if q = 0 then n - 1 else q - 1
def findI (l : List RR) (r : RR) : Nat := if hasR l r = true then cntLess l r else befI l.length (cntLess l r)
theorem findV_eq {l : List RR} {r : RR} (h : chk2 l r = 0) : findV l r = .tuple #[.int .i64 (findI l r : Nat), .bool (hasR l r), .int .i64 0] := by
  unfold findV findI
  rw [if_neg (by simpa using h)]
  have hc1 : chkR l = 0 := by
    unfold chk2 at h
    by_cases hc : chkR l = 0
    · exact hc
    · rw [if_neg hc] at h; omega
  have hl := List.length_pos_iff.2 (chk_ok hc1).ne
  have hq := cntLess_le l r
  by_cases h2 : hasR l r = true
  · rw [if_pos h2, if_pos h2, h2]
  · rw [if_neg h2, if_neg h2]
    have e : (cntLess l r + l.length - 1) % l.length = befI l.length (cntLess l r) := by
      unfold befI
      by_cases h3 : cntLess l r = 0
      · rw [if_pos h3, h3, Nat.zero_add, Nat.mod_eq_of_lt (by omega)]
      · rw [if_neg h3, show cntLess l r + l.length - 1 = (cntLess l r - 1) + l.length by omega, Nat.add_mod_right, Nat.mod_eq_of_lt (by omega)]
    rw [e]
    simp at h2
    rw [h2]
end Go.Proofs.YthhmkaikopdmjaaGreat
namespace Go.Proofs.YthhmkaikopdmjaaGreat
open Go Go.Fw
theorem great45 (H : Heap) {v w : Value} {l m : List RR} (hv : RL H v l) (hw : RL H w m) (hm : m.length ≤ 1000000) : Sim Tryz.prog 10 #[v, w] H (.bool (greatB l || m.any RR.long)) H := by
  have o1 := Great45 H hv
  have o2 := containsFuncR H (g := 42) (cap := #[]) (p := RR.long) hw hm (fun x _ => Long45 H x)
  generalize greatB l = g at *
  generalize m.any RR.long = g' at *
  refine sim_of_ax tok mixed Tryz.func10 rfl (by kernel_rfl) (by kernel_rfl) (by simp only [Tryz.ntmps10, List.size_toArray, List.length_cons, List.length_nil]; omega) ?_
  simp -implicitDefEqProofs only [go_sem, simprocAttr]
  refine wl_callV _ (by simp -implicitDefEqProofs only [go_sem, simprocAttr]) o1 ?_
  cases g
  · simp -implicitDefEqProofs only [go_sem, simprocAttr]
    refine wl_callV _ (by simp -implicitDefEqProofs only [go_sem, simprocAttr]) o2 ?_
    simp -implicitDefEqProofs only [go_sem, simprocAttr, res10, Bool.false_or]
  · simp -implicitDefEqProofs only [go_sem, simprocAttr, res10, Bool.true_or]
theorem fine1 (H : Heap) {r : RR} {k : Nat} (hr : r.le k) (hk : k ≤ 20000) : Sim Tryz.prog 62 #[r.val] H (.bool (decide (r.err ≠ 0))) H := by
  refine flat_ex rfl ?_
  have o1 := fun H => checkR H hr hk
  unfold RR.val rV at *
  refine sim_ex tok mixed Tryz.func62 rfl (by kernel_rfl) (by kernel_rfl) (by simp only [Tryz.ntmps62, List.size_toArray, List.length_cons, List.length_nil]; omega) ?_
  simp -implicitDefEqProofs only [go_sem, simprocAttr, mkI, iV, mkQ, qV, fV, ofV, rV, mkR]
  refine wl_callV _ (by simp -implicitDefEqProofs only [go_sem, simprocAttr, mkI, iV, mkQ, qV, fV, ofV, rV, mkR]) (o1 _) ?_
  simp -implicitDefEqProofs only [go_sem, simprocAttr, mkI, iV, mkQ, qV, fV, ofV, rV, mkR]
  simp -implicitDefEqProofs only [go_sem, simprocAttr, mkI, iV, mkQ, qV, fV, ofV, rV, mkR, decide_not, ne_eq]
  simp -implicitDefEqProofs only [go_sem, simprocAttr, mkI, iV, mkQ, qV, fV, ofV, rV, mkR, res62]
  first | exact .app _ _ | exact ⟨.app _ _, rfl⟩ | exact .refl _ | exact ⟨.refl _, rfl⟩
def fineB (l m : List RR) : Bool := !(greatB l || m.any RR.long) && (decide (l.length ≤ 12) && (decide (chkR l = 0) && !(m.any fun r => decide (r.err ≠ 0))))
theorem any_long {m : List RR} (h : m.any RR.long = false) : ∀ r ∈ m, r.le 64 := fun r hr => RR.long_le (by
  rw [← Bool.not_eq_true, List.any_eq_true] at h
  rw [← Bool.not_eq_true]
  exact fun hx => h ⟨r, hr, hx⟩)
theorem great_le {l : List RR} (h : greatB l = false) : (∀ r ∈ l, r.le 64) ∧ lenBad l.length = false := by
  unfold greatB at h
  rw [Bool.or_eq_false_iff] at h
  exact ⟨any_long h.2, h.1⟩
theorem fine45 (H : Heap) {v w : Value} {l m : List RR} (hv : RL H v l) (hw : RL H w m) (hm : m.length ≤ 1000000) : Sim Tryz.prog 24 #[v, w] H (.bool (fineB l m)) H := by
  have o1 := great45 H hv hw hm
  have e1 := hv.len (tt := tt) tt22
  unfold fineB
  cases hg : (greatB l || m.any RR.long)
  case true =>
    rw [hg] at o1
    refine sim_of_ax tok mixed Tryz.func24 rfl (by kernel_rfl) (by kernel_rfl) (by simp only [Tryz.ntmps24, List.size_toArray, List.length_cons, List.length_nil]; omega) ?_
    simp -implicitDefEqProofs only [go_sem, simprocAttr]
    refine wl_callV _ (by simp -implicitDefEqProofs only [go_sem, simprocAttr]) o1 ?_
    simp -implicitDefEqProofs only [go_sem, simprocAttr, res24, Bool.false_and]
  rw [hg] at o1
  rw [Bool.or_eq_false_iff] at hg
  obtain ⟨hle, hlen⟩ := great_le hg.1
  have hml := any_long hg.2
  simp only [Bool.not_false, Bool.true_and]
  by_cases h12 : l.length ≤ 12
  case neg =>
    have c1 : ¬ (l.length : Int) ≤ 12 := by omega
    rw [decide_eq_false h12]
    refine sim_of_ax tok mixed Tryz.func24 rfl (by kernel_rfl) (by kernel_rfl) (by simp only [Tryz.ntmps24, List.size_toArray, List.length_cons, List.length_nil]; omega) ?_
    simp -implicitDefEqProofs only [go_sem, simprocAttr]
    refine wl_callV _ (by simp -implicitDefEqProofs only [go_sem, simprocAttr]) o1 ?_
    simp -implicitDefEqProofs only [go_sem, simprocAttr, e1, c1, res24, Bool.false_and]
  have c1 : (l.length : Int) ≤ 12 := by omega
  rw [decide_eq_true h12]
  have o2 := Check45 H hv hle (by decide) (by omega)
  have o3 := containsFuncR H (g := 62) (cap := #[]) (p := fun r => decide (r.err ≠ 0)) hw hm (fun x hx => fine1 H (hml x hx) (by decide))
  generalize (m.any fun r => decide (r.err ≠ 0)) = g' at *
  generalize chkR l = c at *
  by_cases hc : c = 0
  · refine sim_of_ax tok mixed Tryz.func24 rfl (by kernel_rfl) (by kernel_rfl) (by simp only [Tryz.ntmps24, List.size_toArray, List.length_cons, List.length_nil]; omega) ?_
    simp -implicitDefEqProofs only [go_sem, simprocAttr]
    refine wl_callV _ (by simp -implicitDefEqProofs only [go_sem, simprocAttr]) o1 ?_
    simp -implicitDefEqProofs only [go_sem, simprocAttr, e1, c1]
    refine wl_callV _ (by simp -implicitDefEqProofs only [go_sem, simprocAttr]) o2 ?_
    simp -implicitDefEqProofs only [go_sem, simprocAttr, hc]
    refine wl_callV _ (by simp -implicitDefEqProofs only [go_sem, simprocAttr]) o3 ?_
    simp -implicitDefEqProofs only [go_sem, simprocAttr, res24, Bool.true_and]
  · refine sim_of_ax tok mixed Tryz.func24 rfl (by kernel_rfl) (by kernel_rfl) (by simp only [Tryz.ntmps24, List.size_toArray, List.length_cons, List.length_nil]; omega) ?_
    simp -implicitDefEqProofs only [go_sem, simprocAttr]
    refine wl_callV _ (by simp -implicitDefEqProofs only [go_sem, simprocAttr]) o1 ?_
    simp -implicitDefEqProofs only [go_sem, simprocAttr, e1, c1]
    refine wl_callV _ (by simp -implicitDefEqProofs only [go_sem, simprocAttr]) o2 ?_
    simp -implicitDefEqProofs only [go_sem, simprocAttr, hc, res24, Bool.true_and, Bool.false_and]
theorem has_any {l : List RR} {r : RR} (ho : Ord l) (hr : r.err = 0) : hasR l r = l.any (fun x => decide (r = x)) := by
  rw [Bool.eq_iff_iff, has_law ho hr, List.any_eq_true]
  constructor
  · rintro ⟨h, h2⟩
    exact ⟨_, List.getElem_mem h, by simp [h2]⟩
  · rintro ⟨x, hx, h2⟩
    simp only [decide_eq_true_eq] at h2
    obtain ⟨i, hi, h3⟩ := List.getElem_of_mem hx
    have := find_law ho hr hi (by rw [h3, h2])
    subst this
    exact ⟨hi, by rw [h3, h2]⟩
end Go.Proofs.YthhmkaikopdmjaaGreat
namespace Go.Proofs.YthhmkaikopdmjaaGreat
open Go Go.Fw
def insL (L : List RR) (i : Nat) (r : RR) : List RR := L.take i ++ r :: L.drop i
theorem insGrow (H : Heap) {b q i : Nat} {L : List RR} {r : RR} (hL : OwnR H b L) (hq : OwnR H q [r]) (hi : i < L.length) (hlen : L.length ≤ 1000) :
    Sim Tryz.prog 68 #[.slice (some ⟨b, 0, none⟩) L.length L.length, .int .i64 (i : Nat), .slice (some ⟨q, 0, none⟩) 1 1] H
      (.slice (some ⟨H.length, 0, none⟩) (L.length + 1) 0) (H ++ [⟨rowF (insL L i r), 6, true⟩]) := by
  have hB := hL.blk
  have hQ := hq.blk
  have e0 : ∀ b c, aLen tt [22] (.slice (some ⟨b, 0, none⟩) L.length c) = some (.int .i64 (L.length : Nat)) := fun _ _ => rfl
  have e1 : aLen tt [22] (.slice (some ⟨q, 0, none⟩) 1 1) = some (.int .i64 1) := rfl
  have ec : aCap tt [22] (.slice (some ⟨b, 0, none⟩) L.length L.length) = some (.int .i64 (L.length : Nat)) := by
    unfold aCap; simp only [tt22]; rw [if_neg (by omega)]
  have d0 : ¬ (1 : Int) = 0 := by decide
  have d1 : ¬ (i : Int) = (L.length : Int) := by omega
  have w1 : IntKind.i64.wrap ((L.length : Int) + 1) = ((L.length + 1 : Nat) : Int) := by rw [w64 (by omega) (by omega)]; rfl
  have w2 : IntKind.i64.wrap (((L.length + 1 : Nat) : Int) - (i : Int)) = ((L.length + 1 - i : Nat) : Int) := by rw [w64 (by omega) (by omega)]; omega
  have w3 : IntKind.i64.wrap ((i : Int) + 1) = ((i + 1 : Nat) : Int) := by rw [w64 (by omega) (by omega)]; rfl
  have d2 : (L.length : Int) < ((L.length + 1 : Nat) : Int) := by omega
  have s1 : aSlice tt H 22 (.slice (some ⟨b, 0, none⟩) L.length L.length) (some (.int .i64 (i : Nat))) none none = some (.slice (some ⟨b, 0 + i * 6, none⟩) (L.length - i) (L.length - i)) :=
    aSlice_at tt22 rfl ⟨_, hB, rfl⟩ (by decide) (.inr (Nat.le_refl _)) (by simp [bnd]) (by simp [bnd]) (by omega) (Nat.le_refl _)
  have s2 : aSlice tt H 22 (.slice (some ⟨b, 0, none⟩) L.length L.length) none (some (.int .i64 (i : Nat))) none = some (.slice (some ⟨b, 0 + 0 * 6, none⟩) (i - 0) (L.length - 0)) :=
    aSlice_at tt22 rfl ⟨_, hB, rfl⟩ (by decide) (.inr (Nat.le_refl _)) (by simp [bnd]) (by simp [bnd]) (by omega) (by omega)
  simp only [Nat.zero_mul, Nat.add_zero, Nat.sub_zero, Nat.zero_add] at s1 s2
  have hA : rd H b 0 (i * 6) = some (rowF (L.take i)) := by
    rw [rd_at hB (Nat.succ_pos 5) (by simp only; rw [show ((L.map RR.cells).flatten).length = L.length * 6 from rowF_len L]; omega)]
    rw [← rowF_take L i (by omega)]; rfl
  have hD : ∀ G, rd (H ++ G) b (i * 6) ((L.length - i) * 6) = some (rowF (L.drop i)) := by
    intro G
    refine rd_more ?_ G
    rw [rd_at hB (Nat.succ_pos 5) (by simp only; rw [show ((L.map RR.cells).flatten).length = L.length * 6 from rowF_len L]; omega)]
    rw [← rowF_drop L i (by omega), List.take_of_length_le (by rw [show ((L.map RR.cells).flatten) = rowF L from rfl, List.length_drop, rowF_len]; omega)]; rfl
  have hR : ∀ G, rd (H ++ G) q 0 (1 * 6) = some r.cells := by
    intro G
    refine rd_more ?_ G
    rw [rd_at hQ (Nat.succ_pos 5) (by simp [RR.cells])]
    simp [RR.cells]
  obtain ⟨Z, hZ⟩ : ∃ Z, Z = zerosL (.agg #[(.bool false), (.string ⟨#[]⟩), (.string ⟨#[]⟩), (.bool false), (.string ⟨#[]⟩), (.string ⟨#[]⟩)] : Value).cells.toList ((L.length + 1 - i) * 6) := ⟨_, rfl⟩
  have hZl : Z.length = (L.length + 1 - i) * 6 := by rw [hZ]; simp [zerosL]
  have a1 : aAppend tt H [22, 3] (.slice (some ⟨b, 0, none⟩) i L.length) (.int .i64 ((L.length + 1 - i : Nat) : Int)) = some (.slice (some ⟨H.length, 0, none⟩) (L.length + 1) 0, H ++ [⟨rowF (L.take i) ++ Z, 6, true⟩]) := by
    have := aMake_at (T := H) (b := b) (i := 0) (n := i) (c := L.length) (k := L.length + 1 - i) tt22 tt3 rfl tt26 (by decide) ⟨by decide, by decide⟩ rfl (by omega) (by omega) (by simp only; omega) hA
    rw [this, hZ, show i + (L.length + 1 - i) = L.length + 1 by omega]
  clear hZ
  have hAl : (rowF (L.take i)).length = i * 6 := by rw [rowF_len, List.length_take]; omega
  have hDl : (rowF (L.drop i)).length = (L.length - i) * 6 := by rw [rowF_len, List.length_drop]
  have blk : ∀ X, (H ++ [(⟨X, 6, true⟩ : Blk)])[H.length]? = some ⟨X, 6, true⟩ := fun X => by simp
  have put : ∀ X Y, (H ++ [(⟨X, 6, true⟩ : Blk)]).set H.length ⟨Y, 6, true⟩ = H ++ [⟨Y, 6, true⟩] := fun X Y => by rw [List.set_append_right _ _ (Nat.le_refl _)]; simp
  have s3 : ∀ X, aSlice tt (H ++ [(⟨X, 6, true⟩ : Blk)]) 22 (.slice (some ⟨H.length, 0, none⟩) (L.length + 1) 0) (some (.int .i64 (i : Nat))) none none = some (.slice (some ⟨H.length, 0 + i * 6, none⟩) (L.length + 1 - i) (0 - i)) := fun X =>
    aSlice_at tt22 rfl ⟨_, blk X, rfl⟩ (by decide) (.inl rfl) (by simp [bnd]) (by simp [bnd]) (by omega) (Nat.le_refl _)
  have s4 : ∀ X, aSlice tt (H ++ [(⟨X, 6, true⟩ : Blk)]) 22 (.slice (some ⟨H.length, 0, none⟩) (L.length + 1) 0) (some (.int .i64 ((i + 1 : Nat) : Int))) none none = some (.slice (some ⟨H.length, 0 + (i + 1) * 6, none⟩) (L.length + 1 - (i + 1)) (0 - (i + 1))) := fun X =>
    aSlice_at tt22 rfl ⟨_, blk X, rfl⟩ (by decide) (.inl rfl) (by simp [bnd]; omega) (by simp [bnd]) (by omega) (Nat.le_refl _)
  have s5 : ∀ X, aSlice tt (H ++ [(⟨X, 6, true⟩ : Blk)]) 22 (.slice (some ⟨b, 0, none⟩) L.length L.length) (some (.int .i64 (i : Nat))) none none = some (.slice (some ⟨b, 0 + i * 6, none⟩) (L.length - i) (L.length - i)) := fun X =>
    aSlice_at tt22 rfl ⟨_, by rw [List.getElem?_append_left (Own.lt hL)]; exact hB, rfl⟩ (by decide) (.inr (Nat.le_refl _)) (by simp [bnd]) (by simp [bnd]) (by omega) (Nat.le_refl _)
  have p1 : splice (rowF (L.take i) ++ Z) (i * 6) r.cells = rowF (L.take i) ++ (r.cells ++ Z.drop 6) := by
    unfold splice
    rw [List.take_append_of_le_length (by omega), List.take_of_length_le (by omega), RR.cells_len, List.drop_append, List.drop_of_length_le (by omega), hAl, List.nil_append, show i * 6 + 6 - i * 6 = 6 by omega, List.append_assoc]
  have p2 : splice (rowF (L.take i) ++ (r.cells ++ Z.drop 6)) ((i + 1) * 6) (rowF (L.drop i)) = rowF (insL L i r) := by
    have h1 : List.take ((i + 1) * 6) (rowF (L.take i) ++ r.cells ++ Z.drop 6) = rowF (L.take i) ++ r.cells := by
      rw [List.take_append_of_le_length (by simp only [List.length_append, hAl, RR.cells_len]; omega), List.take_of_length_le (by simp only [List.length_append, hAl, RR.cells_len]; omega)]
    have h2 : List.drop ((i + 1) * 6 + (rowF (L.drop i)).length) (rowF (L.take i) ++ r.cells ++ Z.drop 6) = [] :=
      List.drop_of_length_le (by simp only [List.length_append, hAl, hDl, hZl, RR.cells_len, List.length_drop]; omega)
    unfold splice insL
    rw [rowF_app, rowF_cons, ← List.append_assoc, h1, h2, List.append_nil, List.append_assoc]
  have c1 : aCopy tt (H ++ [⟨rowF (L.take i) ++ Z, 6, true⟩]) [22, 22] (.slice (some ⟨H.length, i * 6, none⟩) (L.length + 1 - i) 0) (.slice (some ⟨q, 0, none⟩) 1 1) = some (.int .i64 1, H ++ [⟨rowF (L.take i) ++ (r.cells ++ Z.drop 6), 6, true⟩]) := by
    refine aCopy_at (k := 1) tt22 tt26 (by omega) (hR _) ?_
    rw [wr_at (blk _) rfl (by simp only [List.length_append, hAl, hZl, RR.cells_len]; omega) (RR.cells_cell r)]
    simp only [p1, put]
  have c2 : aCopy tt (H ++ [⟨rowF (L.take i) ++ (r.cells ++ Z.drop 6), 6, true⟩]) [22, 22] (.slice (some ⟨H.length, (i + 1) * 6, none⟩) (L.length - i) 0) (.slice (some ⟨b, i * 6, none⟩) (L.length - i) (L.length - i)) = some (.int .i64 ((L.length - i : Nat) : Int), H ++ [⟨rowF (insL L i r), 6, true⟩]) := by
    refine aCopy_at (k := L.length - i) tt22 tt26 (by omega) (hD _) ?_
    rw [wr_at (blk _) rfl (by simp only [List.length_append, hAl, hDl, hZl, RR.cells_len, List.length_drop]; omega) (rowF_ok _)]
    simp only [p2, put]
  simp only [Nat.zero_add, Nat.zero_sub, show L.length + 1 - (i + 1) = L.length - i by omega] at s3 s4 s5
  refine sim_of_ax tok mixed Tryz.func68 rfl (by kernel_rfl) (by kernel_rfl) (by simp only [Tryz.ntmps68, List.size_toArray, List.length_cons, List.length_nil]; omega) ?_
  simp -implicitDefEqProofs only [go_sem, simprocAttr, wa_cond, axC_t, axC_f, wl_cap, wl_copy, s1, s2, s3, e0, e1, ec, d0, d1, d2, w1, w2, w3, a1, c1]
  refine ax_loud (by kernel_rfl) ?_
  simp -implicitDefEqProofs only [go_sem, simprocAttr, wl_copy, s4, s5, w3, c2, res68]
end Go.Proofs.YthhmkaikopdmjaaGreat
namespace Go.Proofs.YthhmkaikopdmjaaGreat
open Go Go.Fw
theorem und22 : Tryz.prog.underlying 22 = some (.slice 26) := by
  obtain ⟨d, h1, h2⟩ := (tok 22 _ tt22).und
  rw [h1]
  have := fits_slice rfl h2
  rw [this]
theorem size26 : ∀ w, (sizeOf 26).run Tryz.prog w = .ok 6 w := by
  intro w
  obtain ⟨info, h1, h2, _⟩ := (tok 26 _ tt26).info
  simp [sizeOf, typeInfo, h1, h2]
theorem overlapsX {H : Heap} {q b i j n m c d : Nat} {Q B : Blk} (hqb : q ≠ b) (hQ : H[q]? = some Q) (hQo : Q.own = true) (hQ0 : Q.cells ≠ []) (hB : H[b]? = some B) (hBo : B.own = true) (hB0 : B.cells ≠ []) (hn0 : n ≠ 0) (hm0 : m ≠ 0) :
    SimX Tryz.prog 120 #[.slice (some ⟨q, i, none⟩) n c, .slice (some ⟨b, j, none⟩) m d] H (.bool false) H :=
  overlaps_simX (tS := 22) (tR := 4) (e := 26) Tryz.func120 (by kernel_rfl) (by kernel_rfl) (by kernel_rfl) (by kernel_rfl) und22 size26 hqb hQ hQo hQ0 hB hBo hB0 hn0 hm0
theorem insEnd (H : Heap) {b q : Nat} {L : List RR} {r : RR} (hL : OwnR H b L) (hq : OwnR H q [r]) (hlen : L.length ≤ 1000) :
    Sim Tryz.prog 68 #[.slice (some ⟨b, 0, none⟩) L.length 0, .int .i64 (L.length : Nat), .slice (some ⟨q, 0, none⟩) 1 1] H
      (.slice (some ⟨H.length, 0, none⟩) (L.length + 1) 0) (H.set b deadBlk ++ [⟨rowF (L ++ [r]), 6, true⟩]) := by
  have hB := hL.blk
  have e0 : ∀ b c, aLen tt [22] (.slice (some ⟨b, 0, none⟩) L.length c) = some (.int .i64 (L.length : Nat)) := fun _ _ => rfl
  have e1 : aLen tt [22] (.slice (some ⟨q, 0, none⟩) 1 1) = some (.int .i64 1) := rfl
  have d0 : ¬ (1 : Int) = 0 := by decide
  have s1 : aSlice tt H 22 (.slice (some ⟨b, 0, none⟩) L.length 0) (some (.int .i64 (L.length : Nat))) none none = some (.slice (some ⟨b, 0 + L.length * 6, none⟩) (L.length - L.length) (0 - L.length)) :=
    aSlice_at tt22 rfl ⟨_, hB, rfl⟩ (by decide) (.inl rfl) (by simp [bnd]) (by simp [bnd]) (by omega) (Nat.le_refl _)
  have a1 := append_own (T := H) (l := L.map RR.cells) (m := [r].map RR.cells) tt22 tt26 rfl (by decide) (by decide) hL (hq.at (c := 1) (.inr (by simp))) (by simp) (by simp; omega)
  simp only [List.length_map, List.length_cons, List.length_nil, Nat.zero_add] at a1
  have e2 : (List.map RR.cells L ++ List.map RR.cells [r]).flatten = rowF (L ++ [r]) := by simp [rowF]
  rw [e2] at a1
  refine sim_of_ax tok mixed Tryz.func68 rfl (by kernel_rfl) (by kernel_rfl) (by simp only [Tryz.ntmps68, List.size_toArray, List.length_cons, List.length_nil]; omega) ?_
  simp -implicitDefEqProofs only [go_sem, simprocAttr, wa_cond, axC_t, axC_f, s1, e0, e1, d0, a1, res68]
theorem insRoom (H : Heap) {b q i C : Nat} {L : List RR} {r : RR} {J : List Value} (hB : H[b]? = some ⟨rowF L ++ J, 6, true⟩) (hJ : J.length = 6) (hq : OwnR H q [r]) (hqb : q ≠ b) (hi : i < L.length) (hC : L.length + 1 ≤ C) (hlen : L.length ≤ 1000) :
    Sim Tryz.prog 68 #[.slice (some ⟨b, 0, none⟩) L.length C, .int .i64 (i : Nat), .slice (some ⟨q, 0, none⟩) 1 1] H
      (.slice (some ⟨b, 0, none⟩) (L.length + 1) C) (H.set b ⟨rowF (insL L i r), 6, true⟩) := by
  have hQ := hq.blk
  have hbl : b < H.length := (List.getElem?_eq_some_iff.1 hB).1
  have e0 : ∀ b c, aLen tt [22] (.slice (some ⟨b, 0, none⟩) L.length c) = some (.int .i64 (L.length : Nat)) := fun _ _ => rfl
  have e1 : aLen tt [22] (.slice (some ⟨q, 0, none⟩) 1 1) = some (.int .i64 1) := rfl
  have ec : aCap tt [22] (.slice (some ⟨b, 0, none⟩) L.length C) = some (.int .i64 (C : Nat)) := by
    unfold aCap; simp only [tt22]; rw [if_neg (by omega)]
  have d0 : ¬ (1 : Int) = 0 := by decide
  have d1 : ¬ (i : Int) = (L.length : Int) := by omega
  have w1 : IntKind.i64.wrap ((L.length : Int) + 1) = ((L.length + 1 : Nat) : Int) := by rw [w64 (by omega) (by omega)]; rfl
  have w3 : IntKind.i64.wrap ((i : Int) + 1) = ((i + 1 : Nat) : Int) := by rw [w64 (by omega) (by omega)]; rfl
  have d2 : ¬ (C : Int) < ((L.length + 1 : Nat) : Int) := by omega
  have s1 : ∀ T, aSlice tt T 22 (.slice (some ⟨b, 0, none⟩) L.length C) (some (.int .i64 (i : Nat))) none none = some (.slice (some ⟨b, 0 + i * 6, none⟩) (L.length - i) (C - i)) := fun T =>
    aSlice_cap tt22 rfl (by omega) (by simp [bnd]) (by simp [bnd]) (by omega) (by omega)
  have s2 : ∀ T, aSlice tt T 22 (.slice (some ⟨b, 0, none⟩) L.length C) none (some (.int .i64 ((L.length + 1 : Nat) : Int))) none = some (.slice (some ⟨b, 0 + 0 * 6, none⟩) (L.length + 1 - 0) (C - 0)) := fun T =>
    aSlice_cap tt22 rfl (by omega) (by simp [bnd]) (by simp [bnd]; omega) (by omega) (by omega)
  have s3 : ∀ T, aSlice tt T 22 (.slice (some ⟨b, 0, none⟩) (L.length + 1) C) (some (.int .i64 ((i + 1 : Nat) : Int))) none none = some (.slice (some ⟨b, 0 + (i + 1) * 6, none⟩) (L.length + 1 - (i + 1)) (C - (i + 1))) := fun T =>
    aSlice_cap tt22 rfl (by omega) (by simp [bnd]; omega) (by simp [bnd]) (by omega) (by omega)
  have s4 : ∀ T, aSlice tt T 22 (.slice (some ⟨b, 0, none⟩) (L.length + 1) C) (some (.int .i64 (i : Nat))) none none = some (.slice (some ⟨b, 0 + i * 6, none⟩) (L.length + 1 - i) (C - i)) := fun T =>
    aSlice_cap tt22 rfl (by omega) (by simp [bnd]) (by simp [bnd]) (by omega) (by omega)
  have o := overlapsX (i := 0) (j := (i + 1) * 6) (n := 1) (m := L.length - i) (c := 1) (d := C - (i + 1)) hqb hQ rfl (by simp [RR.cells]) hB rfl (fun h => by have := congrArg List.length h; rw [List.length_append, hJ] at this; simp at this) (by decide) (by omega)
  have hTl : (rowF (L.take (i + 1))).length = (i + 1) * 6 := by rw [rowF_len, List.length_take]; omega
  have hAl : (rowF (L.take i)).length = i * 6 := by rw [rowF_len, List.length_take]; omega
  have hDl : (rowF (L.drop i)).length = (L.length - i) * 6 := by rw [rowF_len, List.length_drop]
  have hFl : (rowF L ++ J).length = (L.length + 1) * 6 := by rw [List.length_append, rowF_len, hJ]; omega
  have hD : rd H b (i * 6) ((L.length - i) * 6) = some (rowF (L.drop i)) := by
    rw [rd_at hB (Nat.succ_pos 5) (by simp only; omega)]
    simp only
    rw [List.drop_append_of_le_length (by rw [rowF_len]; omega), rowF_drop L i (by omega), List.take_append_of_le_length (by omega), List.take_of_length_le (by omega)]
  have p1 : splice (rowF L ++ J) ((i + 1) * 6) (rowF (L.drop i)) = rowF (L.take (i + 1)) ++ rowF (L.drop i) := by
    have h1 : List.take ((i + 1) * 6) (rowF L ++ J) = rowF (L.take (i + 1)) := by
      rw [List.take_append_of_le_length (by rw [rowF_len]; omega), rowF_take L (i + 1) (by omega)]
    have h2 : List.drop ((i + 1) * 6 + (rowF (L.drop i)).length) (rowF L ++ J) = [] := List.drop_of_length_le (by rw [hDl, hFl]; omega)
    unfold splice
    rw [h1, h2, List.append_nil]
  have hx : ∃ x, L.take (i + 1) = L.take i ++ [x] := ⟨L[i], by rw [List.take_add_one, List.getElem?_eq_getElem hi]; rfl⟩
  obtain ⟨x, hx⟩ := hx
  have p2 : splice (rowF (L.take (i + 1)) ++ rowF (L.drop i)) (i * 6) r.cells = rowF (insL L i r) := by
    have h0 : rowF (L.take (i + 1)) = rowF (L.take i) ++ x.cells := by rw [hx, rowF_app, rowF_cons]; simp [rowF]
    have h1 : List.take (i * 6) (rowF (L.take i) ++ (x.cells ++ rowF (L.drop i))) = rowF (L.take i) := by
      rw [List.take_append_of_le_length (by omega), List.take_of_length_le (by omega)]
    have h2 : List.drop (i * 6 + 6) (rowF (L.take i) ++ (x.cells ++ rowF (L.drop i))) = rowF (L.drop i) := by
      rw [← List.append_assoc, List.drop_append_of_le_length (by rw [List.length_append, hAl, RR.cells_len]; omega), List.drop_of_length_le (by rw [List.length_append, hAl, RR.cells_len]; omega), List.nil_append]
    unfold splice insL
    rw [h0, List.append_assoc (rowF (L.take i)) x.cells, h1, RR.cells_len, h2, rowF_app, rowF_cons, List.append_assoc]
  have c1 : aCopy tt H [22, 22] (.slice (some ⟨b, (i + 1) * 6, none⟩) (L.length - i) (C - (i + 1))) (.slice (some ⟨b, i * 6, none⟩) (L.length + 1 - i) (C - i)) = some (.int .i64 ((L.length - i : Nat) : Int), H.set b ⟨rowF (L.take (i + 1)) ++ rowF (L.drop i), 6, true⟩) := by
    refine aCopy_at (k := L.length - i) tt22 tt26 (by omega) hD ?_
    rw [wr_at hB rfl (by simp only; omega) (rowF_ok _)]
    simp only [p1]
  have hR : rd (H.set b ⟨rowF (L.take (i + 1)) ++ rowF (L.drop i), 6, true⟩) q 0 (1 * 6) = some r.cells := by
    rw [rd_at (by rw [List.getElem?_set_ne (Ne.symm hqb)]; exact hQ) (Nat.succ_pos 5) (by simp [RR.cells])]
    simp [RR.cells]
  have c2 : aCopy tt (H.set b ⟨rowF (L.take (i + 1)) ++ rowF (L.drop i), 6, true⟩) [22, 22] (.slice (some ⟨b, i * 6, none⟩) (L.length + 1 - i) (C - i)) (.slice (some ⟨q, 0, none⟩) 1 1) = some (.int .i64 1, H.set b ⟨rowF (insL L i r), 6, true⟩) := by
    refine aCopy_at (k := 1) tt22 tt26 (by omega) hR ?_
    rw [wr_at (List.getElem?_set_self hbl) rfl (by simp only [List.length_append, hTl, hDl, RR.cells_len]; omega) (RR.cells_cell r)]
    simp only [p2, List.set_set]
  simp only [Nat.zero_add, Nat.zero_mul, Nat.sub_zero, show L.length + 1 - (i + 1) = L.length - i by omega] at s1 s2 s3 s4
  refine sim_of_axS (snd_simX _ none) tok mixed Tryz.func68 rfl (by kernel_rfl) (by kernel_rfl) (by simp only [Tryz.ntmps68, List.size_toArray, List.length_cons, List.length_nil]; omega) ?_
  simp -implicitDefEqProofs only [go_sem, simprocAttr, wa_cond, axC_t, axC_f, wl_cap, wl_copy, s1, s2, s3, e0, e1, ec, d0, d1, d2, w1, w3]
  refine wl_callV _ (by simp -implicitDefEqProofs only [go_sem, simprocAttr]) (.inr o) ?_
  simp -implicitDefEqProofs only [go_sem, simprocAttr, wa_cond, axC_t, axC_f]
  refine ax_loud (by kernel_rfl) ?_
  simp -implicitDefEqProofs only [go_sem, simprocAttr, wl_copy, s3, s4, w3, c1, c2, res68]
end Go.Proofs.YthhmkaikopdmjaaGreat
namespace Go.Proofs.YthhmkaikopdmjaaGreat
open Go Go.Fw
theorem still_lies {ρ ρ' : Inj} {H H' : Heap} {W W' : World} (s : Step ρ H W ρ' H' W') {b : Nat} {p : Fw.Place} {B : Blk} (hp : ρ b = some (.lies p)) (hB : H'[b]? = some B) (ho : B.own = true) : ρ' b = some (.lies p) := by
  rcases s.le b _ hp with h | h
  · exact h
  · have := s.mem.gone b h
    rw [hB] at this; cases this
    cases ho
theorem insS (H : Heap) {b q i : Nat} {L : List RR} {r : RR} (hL : OwnR H b L) (hq : OwnR H q [r]) (hqb : q ≠ b) (hi : i ≤ L.length) (hlen : L.length ≤ 1000) :
    Sim Tryz.prog 68 #[.slice (some ⟨b, 0, none⟩) L.length 0, .int .i64 (i : Nat), .slice (some ⟨q, 0, none⟩) 1 1] H
      (.slice (some ⟨H.length, 0, none⟩) (L.length + 1) 0) (H.set b deadBlk ++ [⟨rowF (insL L i r), 6, true⟩]) := by
  have hend := insEnd H hL hq hlen
  by_cases hin : i = L.length
  · subst hin
    have e : insL L L.length r = L ++ [r] := by unfold insL; rw [List.take_length, List.drop_length]
    rw [e]; exact hend
  have hil : i < L.length := by omega
  have hbl := Own.lt hL
  have hB : H[b]? = some ⟨rowF L, 6, true⟩ := hL.blk
  refine ⟨hend.1, fun ρ W ARGS hM hA => ?_⟩
  have hs := hA.1
  obtain ⟨A0, A1, A2, rfl⟩ : ∃ A0 A1 A2, ARGS = #[A0, A1, A2] := by
    match ARGS, hs with
    | ⟨[x, y, z]⟩, _ => exact ⟨x, y, z, rfl⟩
  have v0 := hA.2 0 (by simp) (by simp)
  have v1 := hA.2 1 (by simp) (by simp)
  have v2 := hA.2 2 (by simp) (by simp)
  simp only [List.getElem_toArray, List.getElem_cons_zero, List.getElem_cons_succ] at v0 v1 v2
  obtain ⟨p, C, hp, rfl, hnC, _, hext, l⟩ := VR.slice_own hM v0 hB rfl (by omega)
  have hext := hext rfl
  have hesz : p.esz = 6 := l.esz
  have hnew : ∀ c, c ≠ 0 → C = c → VRs ρ #[.slice (some ⟨b, 0, none⟩) L.length c, .int .i64 (i : Nat), .slice (some ⟨q, 0, none⟩) 1 1] #[.slice (some ⟨p.blk, p.off + 0, none⟩) L.length C, A1, A2] := fun c hc hCc => by
    refine ⟨rfl, fun j h1 h2 => ?_⟩
    match j, h1, h2 with
    | 0, _, _ => exact .slice b 0 _ c p C hp hnC (.inr hCc) (fun h => absurd h hc)
    | 1, _, _ => exact v1
    | 2, _, _ => exact v2
  by_cases hC : C = L.length
  · -- no room
    have h := (insGrow H (r := r) hL hq hil hlen).2 ρ W _ hM (hnew L.length (by omega) hC)
    refine h.mono ?_
    rintro e W' ⟨V, ρ', rfl, hv, hs⟩
    have hB1 : (H ++ [(⟨rowF (insL L i r), 6, true⟩ : Blk)])[b]? = some ⟨rowF L, 6, true⟩ := by rw [List.getElem?_append_left hbl]; exact hB
    have hb' := still_lies hs hp hB1 rfl
    have s2 := hs.trans (Step.kill hs.mem hb')
    rw [List.set_append_left _ _ hbl] at s2
    exact ⟨V, _, rfl, hv.mono (Inj.le_kill ρ' b), s2⟩
  · -- in place
    have hC1 : L.length + 1 ≤ C := by omega
    have hroom : (L.length + 1) * 6 ≤ p.ext := by
      rw [hesz] at hext
      omega
    have hFl := rowF_len L
    obtain ⟨J, hJl, hJ⟩ : ∃ J : List Value, J.length = 6 ∧ ∀ k v, J[k]? = some v → W.cell? ⟨p.blk, p.off + ((rowF L).length + k), none⟩ = some v ∧ plain v = true := by
      refine ⟨(List.range 6).map fun k => (W.cell? ⟨p.blk, p.off + ((rowF L).length + k), none⟩).getD default, by simp, fun k v hv => ?_⟩
      rw [List.getElem?_map] at hv
      by_cases hk : k < 6
      · rw [List.getElem?_range hk] at hv
        obtain ⟨⟨U, hU⟩, _⟩ := l.mine rfl ((rowF L).length + k) (by omega)
        simp only [Option.map_some, hU, Option.getD_some, Option.some.injEq] at hv
        subst hv
        exact ⟨hU, l.spare rfl ((rowF L).length + k) U (by simp) (by omega) hU⟩
      · rw [List.getElem?_eq_none (by simp; omega)] at hv; cases hv
    have sw := Step.widen hM hp hB rfl hJ (by simp only; omega)
    have hB2 : (H.set b ⟨rowF L ++ J, 6, true⟩)[b]? = some ⟨rowF L ++ J, 6, true⟩ := List.getElem?_set_self hbl
    have hq2 : OwnR (H.set b ⟨rowF L ++ J, 6, true⟩) q [r] := Own.other hq (Ne.symm hqb) _
    have h := (insRoom (H.set b ⟨rowF L ++ J, 6, true⟩) (r := r) hB2 hJl hq2 hqb hil hC1 hlen).2 ρ W _ sw.mem (hnew C (by omega) rfl)
    refine h.mono ?_
    rintro e W' ⟨V, ρ', rfl, hv, hs⟩
    rw [List.set_set] at hs
    have hB3 : (H.set b ⟨rowF (insL L i r), 6, true⟩)[b]? = some ⟨rowF (insL L i r), 6, true⟩ := List.getElem?_set_self hbl
    have hb' := still_lies hs hp hB3 rfl
    have hil2 : (rowF (insL L i r)).length = (L.length + 1) * 6 := by rw [rowF_len]; unfold insL; simp; omega
    have s3 := Step.retarget hs.mem (i := 0) (m := (L.length + 1) * 6) hb' hB3 rfl (by simp only; omega) (by simp only; rw [List.drop_of_length_le (by omega)]; rfl) (fun _ _ => plain_vr)
    have s4 := (sw.trans hs).trans s3
    simp only [List.set_set, List.length_set, List.drop_zero, List.take_of_length_le (Nat.le_of_eq hil2)] at s4
    obtain ⟨p', C', hp', rfl, hn', hcC, _, _⟩ := VR.slice_own hs.mem hv hB3 rfl (by omega)
    rw [hb'] at hp'; cases hp'
    have hcC : C' = C := by omega
    subst hcC
    refine ⟨_, _, rfl, ?_, s4⟩
    exact .slice H.length 0 (L.length + 1) 0 ⟨p.blk, p.off + 0, p.ext - 0, p.esz⟩ C' (Inj.put_same _ _ _) hn' (.inl rfl) (fun _ => by simp only; omega)
end Go.Proofs.YthhmkaikopdmjaaGreat
namespace Go.Proofs.YthhmkaikopdmjaaGreat
open Go Go.Fw
def insE (l : List RR) (r : RR) : Int := if chk2 l r ≠ 0 then chk2 l r else if hasR l r = true then 5 else if l.length = 64 then 4 else 0
def insO (l : List RR) (r : RR) : List RR := if insE l r = 0 then insL l (cntLess l r) r else []
theorem RL.nil (H : Heap) : RL H (.slice none 0 0) [] := .inl ⟨.inl rfl, rfl⟩
theorem InsertS (H : Heap) {v : Value} {l : List RR} {r : RR} {k : Nat} (hv : RL H v l) (hle : ∀ r ∈ l, r.le k) (hr : r.le k) (hk : k ≤ 19000) (hl : l.length ≤ 1000) :
    ∃ w H', Sim Tryz.prog 27 #[v, r.val] H w H' ∧ Ext H H' ∧ ∃ x, w = .tuple #[x, .int .i64 (insE l r)] ∧ RL H' x (insO l r) := by
  have o1 := fun G => check2S (H ++ G) (El.app hv G) hle hr hk (by omega)
  have e1 := hv.len (tt := tt) tt22
  by_cases h : chk2 l r = 0
  case neg =>
    have hE : insE l r = chk2 l r := by unfold insE; rw [if_pos h]
    have hO : insO l r = [] := by unfold insO; rw [hE, if_neg h]
    rw [hE, hO]
    generalize chk2 l r = c at *
    unfold RR.val rV at o1 ⊢
    refine sim_ex tok mixed Tryz.func27 rfl (by kernel_rfl) (by kernel_rfl) (by simp only [Tryz.ntmps27, List.size_toArray, List.length_cons, List.length_nil]; omega) ?_
    simp -implicitDefEqProofs only [go_sem, simprocAttr, mkI, iV, mkQ, qV, fV, ofV, rV, mkR]
    refine wl_callV _ (by simp -implicitDefEqProofs only [go_sem, simprocAttr, mkI, iV, mkQ, qV, fV, ofV, rV, mkR, h, wa_cond, axC_t, axC_f]) (o1 _) ?_
    simp -implicitDefEqProofs only [go_sem, simprocAttr, mkI, iV, mkQ, qV, fV, ofV, rV, mkR, h, wa_cond, axC_t, axC_f]
    simp -implicitDefEqProofs only [go_sem, simprocAttr, res27]
    exact ⟨.app _ _, _, rfl, RL.nil _⟩
  have hc1 : chkR l = 0 := by
    unfold chk2 at h
    by_cases hc : chkR l = 0
    · exact hc
    · rw [if_neg hc] at h; omega
  have hc2 : r.err = 0 := by unfold chk2 at h; rw [if_pos hc1] at h; exact h
  have ho := chk_ok hc1
  have o2 : ∀ G, Sim Tryz.prog 53 #[v, r.val, .func (.func 54) #[] #[]] (H ++ G) (.tuple #[.int .i64 (cntLess l r : Nat), .bool (hasR l r)]) (H ++ G) := fun G => binR (H ++ G) (El.app hv G) hle hr hk ho hc2
  have hcl := cntLess_le l r
  rw [h] at o1
  by_cases hh : hasR l r = true
  · have hE : insE l r = 5 := by unfold insE; rw [if_neg (by simpa using h), if_pos hh]
    have hO : insO l r = [] := by unfold insO; rw [hE, if_neg (by decide)]
    rw [hE, hO]
    rw [hh] at o2
    generalize cntLess l r = q at *
    unfold RR.val rV at o1 o2 ⊢
    refine sim_ex tok mixed Tryz.func27 rfl (by kernel_rfl) (by kernel_rfl) (by simp only [Tryz.ntmps27, List.size_toArray, List.length_cons, List.length_nil]; omega) ?_
    simp -implicitDefEqProofs only [go_sem, simprocAttr, mkI, iV, mkQ, qV, fV, ofV, rV, mkR]
    refine wl_callV _ (by simp -implicitDefEqProofs only [go_sem, simprocAttr, mkI, iV, mkQ, qV, fV, ofV, rV, mkR, wa_cond, axC_t, axC_f]) (o1 _) ?_
    simp -implicitDefEqProofs only [go_sem, simprocAttr, mkI, iV, mkQ, qV, fV, ofV, rV, mkR, wa_cond, axC_t, axC_f]
    refine wl_callV _ (by simp -implicitDefEqProofs only [go_sem, simprocAttr, mkI, iV, mkQ, qV, fV, ofV, rV, mkR, wa_cond, axC_t, axC_f]) (o2 _) ?_
    simp -implicitDefEqProofs only [go_sem, simprocAttr, mkI, iV, mkQ, qV, fV, ofV, rV, mkR, wa_cond, axC_t, axC_f]
    simp -implicitDefEqProofs only [go_sem, simprocAttr, res27]
    exact ⟨.app _ _, _, rfl, RL.nil _⟩
  have hh0 : hasR l r = false := by simpa using hh
  by_cases h64 : l.length = 64
  · have hE : insE l r = 4 := by unfold insE; rw [if_neg (by simpa using h), if_neg hh, if_pos h64]
    have hO : insO l r = [] := by unfold insO; rw [hE, if_neg (by decide)]
    rw [hE, hO]
    rw [hh0] at o2
    have c1 : (l.length : Int) = 64 := by omega
    generalize cntLess l r = q at *
    unfold RR.val rV at o1 o2 ⊢
    refine sim_ex tok mixed Tryz.func27 rfl (by kernel_rfl) (by kernel_rfl) (by simp only [Tryz.ntmps27, List.size_toArray, List.length_cons, List.length_nil]; omega) ?_
    simp -implicitDefEqProofs only [go_sem, simprocAttr, mkI, iV, mkQ, qV, fV, ofV, rV, mkR]
    refine wl_callV _ (by simp -implicitDefEqProofs only [go_sem, simprocAttr, mkI, iV, mkQ, qV, fV, ofV, rV, mkR, wa_cond, axC_t, axC_f]) (o1 _) ?_
    simp -implicitDefEqProofs only [go_sem, simprocAttr, mkI, iV, mkQ, qV, fV, ofV, rV, mkR, wa_cond, axC_t, axC_f]
    refine wl_callV _ (by simp -implicitDefEqProofs only [go_sem, simprocAttr, mkI, iV, mkQ, qV, fV, ofV, rV, mkR, wa_cond, axC_t, axC_f, e1, c1]) (o2 _) ?_
    simp -implicitDefEqProofs only [go_sem, simprocAttr, mkI, iV, mkQ, qV, fV, ofV, rV, mkR, wa_cond, axC_t, axC_f, e1, c1]
    simp -implicitDefEqProofs only [go_sem, simprocAttr, res27]
    exact ⟨.app _ _, _, rfl, RL.nil _⟩
  have hE : insE l r = 0 := by unfold insE; rw [if_neg (by simpa using h), if_neg hh, if_neg h64]
  have hO : insO l r = insL l (cntLess l r) r := by unfold insO; rw [hE, if_pos rfl]
  rw [hE, hO]
  rw [hh0] at o2
  have c1 : ¬ (l.length : Int) = 64 := by omega
  obtain ⟨b, i0, c, rfl, hA⟩ := hv.at ho.ne
  obtain ⟨vc, T1, ocl, hE1, b1, hb1, rfl, hown1⟩ := cloneR (H ++ [⟨r.cells, 1, true⟩]) (hA.app _) ho.ne (by omega)
  have hbl := Own.lt hown1
  have hq : OwnR (T1 ++ [⟨r.cells, 6, true⟩]) T1.length [r] := by
    have := OwnR.new T1 [r]
    simpa using this
  have oi := insS (T1 ++ [⟨r.cells, 6, true⟩]) (r := r) (Own.app hown1 _) hq (by omega) hcl hl
  have hrc : rd T1 H.length 0 6 = some r.cells := by
    obtain ⟨G, rfl⟩ := hE1
    refine rd_more ?_ G
    unfold rd
    rw [List.getElem?_append_right (Nat.le_refl _)]
    simp [RR.cells]
  have hfin : ∀ X, Ext H ((T1 ++ [(⟨r.cells, 6, true⟩ : Blk)]).set b1 deadBlk ++ [⟨X, 6, true⟩]) := fun X =>
    ((((Ext.app H _).trans hE1).trans (.app _ _)).set (by simp at hb1; omega) _).trans (.app _ _)
  have hrl : RL ((T1 ++ [(⟨r.cells, 6, true⟩ : Blk)]).set b1 deadBlk ++ [⟨rowF (insL l (cntLess l r) r), 6, true⟩]) (.slice (some ⟨T1.length + 1, 0, none⟩) (l.length + 1) 0) (insL l (cntLess l r) r) := by
    have := (OwnR.new ((T1 ++ [(⟨r.cells, 6, true⟩ : Blk)]).set b1 deadBlk) (insL l (cntLess l r) r)).rl
    have e : (insL l (cntLess l r) r).length = l.length + 1 := by unfold insL; simp; omega
    rw [e] at this
    simp only [List.length_set, List.length_append, List.length_cons, List.length_nil, Nat.zero_add] at this
    exact this
  simp only [List.length_append, List.length_cons, List.length_nil, Nat.zero_add] at oi
  have row := row1 T1 r
  generalize rowF (insL l (cntLess l r) r) = X at *
  generalize cntLess l r = q at *
  unfold RR.cells at ocl hrc hfin hrl oi row
  unfold RR.val rV at o1 o2 row ⊢
  refine sim_ex tok mixed Tryz.func27 rfl (by kernel_rfl) (by kernel_rfl) (by simp only [Tryz.ntmps27, List.size_toArray, List.length_cons, List.length_nil]; omega) ?_
  simp -implicitDefEqProofs only [go_sem, simprocAttr, mkI, iV, mkQ, qV, fV, ofV, rV, mkR]
  refine wl_callV _ (by simp -implicitDefEqProofs only [go_sem, simprocAttr, mkI, iV, mkQ, qV, fV, ofV, rV, mkR, wa_cond, axC_t, axC_f]) (o1 _) ?_
  simp -implicitDefEqProofs only [go_sem, simprocAttr, mkI, iV, mkQ, qV, fV, ofV, rV, mkR, wa_cond, axC_t, axC_f]
  refine wl_callV _ (by simp -implicitDefEqProofs only [go_sem, simprocAttr, mkI, iV, mkQ, qV, fV, ofV, rV, mkR, wa_cond, axC_t, axC_f, e1, c1]) (o2 _) ?_
  simp -implicitDefEqProofs only [go_sem, simprocAttr, mkI, iV, mkQ, qV, fV, ofV, rV, mkR, wa_cond, axC_t, axC_f, e1, c1]
  refine ax_mix 32 (by kernel_rfl) ?_
  simp -implicitDefEqProofs only [go_sem, simprocAttr, mkI, iV, mkQ, qV, fV, ofV, rV, mkR]
  refine wl_callF _ (by simp -implicitDefEqProofs only [go_sem, simprocAttr]) ocl (fun _ => hE1) ?_
  simp -implicitDefEqProofs only [go_sem, simprocAttr, hrc, row]
  refine wl_callF _ (by simp -implicitDefEqProofs only [go_sem, simprocAttr]) oi (fun h => by cases h) ?_
  simp -implicitDefEqProofs only [go_sem, simprocAttr, res27]
  exact ⟨hfin X, _, rfl, hrl⟩
end Go.Proofs.YthhmkaikopdmjaaGreat
namespace Go.Proofs.YthhmkaikopdmjaaGreat
open Go Go.Fw
def delL (L : List RR) (i : Nat) : List RR := L.take i ++ L.drop (i + 1)
theorem delL_len {L : List RR} {i : Nat} (h : i < L.length) : (delL L i).length + 1 = L.length := by unfold delL; simp; omega
def zero26 : List Value := zerosL (Value.agg #[.bool false, .string ⟨#[]⟩, .string ⟨#[]⟩, .bool false, .string ⟨#[]⟩, .string ⟨#[]⟩]).cells.toList (1 * 6)
theorem delCap (H : Heap) {b i C : Nat} {L : List RR} (hL : OwnR H b L) (hi : i < L.length) (h2 : 2 ≤ L.length) (hC : L.length ≤ C) (hlen : L.length ≤ 1000) :
    Sim Tryz.prog 30 #[.slice (some ⟨b, 0, none⟩) L.length C, .int .i64 (i : Nat), .int .i64 ((i + 1 : Nat) : Int)] H
      (.slice (some ⟨b, 0, none⟩) (L.length - 1) C) (H.set b ⟨rowF (delL L i) ++ zero26, 6, true⟩) := by
  have hB : H[b]? = some ⟨rowF L, 6, true⟩ := hL.blk
  have hbl := Own.lt hL
  have hrl := rowF_len L
  have e0 : ∀ n c, aLen tt [22] (.slice (some ⟨b, 0, none⟩) n c) = some (.int .i64 (n : Nat)) := fun _ _ => rfl
  have d1 : ¬ (i : Int) = ((i + 1 : Nat) : Int) := by omega
  have s1 : ∀ T, aSlice tt T 22 (.slice (some ⟨b, 0, none⟩) L.length C) (some (.int .i64 (i : Nat))) (some (.int .i64 ((i + 1 : Nat) : Int))) (some (.int .i64 (L.length : Nat))) = some (.slice (some ⟨b, 0 + i * 6, none⟩) (i + 1 - i) (L.length - i)) := fun T =>
    aSlice_cap3 tt22 rfl (by omega) (by simp [bnd]) (by simp [bnd]; omega) (by simp [bnd]) rfl (by omega) (by omega) hC
  have s2 : ∀ T, aSlice tt T 22 (.slice (some ⟨b, 0, none⟩) L.length C) none (some (.int .i64 (i : Nat))) none = some (.slice (some ⟨b, 0 + 0 * 6, none⟩) (i - 0) (C - 0)) := fun T =>
    aSlice_cap tt22 rfl (by omega) (by simp [bnd]) (by simp [bnd]) (by omega) (by omega)
  have s3 : ∀ T, aSlice tt T 22 (.slice (some ⟨b, 0, none⟩) L.length C) (some (.int .i64 ((i + 1 : Nat) : Int))) none none = some (.slice (some ⟨b, 0 + (i + 1) * 6, none⟩) (L.length - (i + 1)) (C - (i + 1))) := fun T =>
    aSlice_cap tt22 rfl (by omega) (by simp [bnd]; omega) (by simp [bnd]) (by omega) (by omega)
  have s4 : ∀ T, aSlice tt T 22 (.slice (some ⟨b, 0, none⟩) (L.length - 1) C) (some (.int .i64 ((L.length - 1 : Nat) : Int))) (some (.int .i64 (L.length : Nat))) none = some (.slice (some ⟨b, 0 + (L.length - 1) * 6, none⟩) (L.length - (L.length - 1)) (C - (L.length - 1))) := fun T =>
    aSlice_cap tt22 rfl (by omega) (by simp [bnd]) (by simp [bnd]) (by omega) (by omega)
  simp only [Nat.zero_add, Nat.zero_mul, Nat.sub_zero, show i + 1 - i = 1 by omega, show L.length - (L.length - 1) = 1 by omega] at s1 s2 s3 s4
  have hdl := delL_len hi
  have a1 : ∃ Y : List Value, Y.length = 6 ∧ aAppend tt H [22, 22] (.slice (some ⟨b, 0, none⟩) i C) (.slice (some ⟨b, (i + 1) * 6, none⟩) (L.length - (i + 1)) (C - (i + 1))) = some (.slice (some ⟨b, 0, none⟩) (L.length - 1) C, H.set b ⟨rowF (delL L i) ++ Y, 6, true⟩) := by
    by_cases hm : L.length - (i + 1) = 0
    · have hi1 : i = L.length - 1 := by omega
      have hd : L.drop (i + 1) = [] := List.drop_of_length_le (by omega)
      have e : L = delL L i ++ [L[i]] := by
        unfold delL
        rw [hd, List.append_nil, List.take_append_getElem, List.take_of_length_le (by omega)]
      refine ⟨L[i].cells, rfl, ?_⟩
      have hr : rd H b ((i + 1) * 6) (0 * 6) = some [] := by
        rw [rd_at hB (Nat.succ_pos 5) (by simp only; omega)]; simp
      rw [hm, app_no tt22 tt26 (by decide) (by decide) (by decide) hr]
      have e2 : rowF (delL L i) ++ L[i].cells = rowF L := by conv => rhs; rw [e, rowF_app]
                                                             simp [rowF]
      rw [e2]
      have e3 : H.set b ⟨rowF L, 6, true⟩ = H := by
        obtain ⟨h1, h2⟩ := List.getElem?_eq_some_iff.1 hB
        rw [← h2]; exact List.set_getElem_self h1
      rw [e3, ← hi1]
    · have hD : rd H b ((i + 1) * 6) ((L.length - (i + 1)) * 6) = some (rowF (L.drop (i + 1))) := by
        rw [rd_at hB (Nat.succ_pos 5) (by simp only; omega)]
        simp only
        rw [rowF_drop L (i + 1) (by omega), List.take_of_length_le (by rw [rowF_len, List.length_drop]; omega)]
      have hDl : (rowF (L.drop (i + 1))).length = (L.length - (i + 1)) * 6 := by rw [rowF_len, List.length_drop]
      have hw : wr H b (0 + i * 6) (rowF (L.drop (i + 1))) = some (H.set b ⟨splice (rowF L) (0 + i * 6) (rowF (L.drop (i + 1))), 6, true⟩) := wr_at hB rfl (by simp only; omega) (rowF_ok _)
      have := app_in (i := 0) tt22 tt26 rfl (by decide) (by decide) (by decide) (d := C - (i + 1)) (c := C) hD (rowF_ok _) hm (by simp; omega) (by omega) hw
      refine ⟨(rowF L).drop (i * 6 + (rowF (L.drop (i + 1))).length), by rw [List.length_drop, hDl]; omega, ?_⟩
      rw [this, show i + (L.length - (i + 1)) = L.length - 1 by omega]
      congr 3
      unfold splice delL
      rw [Nat.zero_add, rowF_take L i (by omega), rowF_app, List.append_assoc]
  obtain ⟨Y, hY, a1⟩ := a1
  have hw2 : wr (H.set b ⟨rowF (delL L i) ++ Y, 6, true⟩) b ((L.length - 1) * 6) zero26 = some (H.set b ⟨rowF (delL L i) ++ zero26, 6, true⟩) := by
    rw [wr_at (List.getElem?_set_self hbl) rfl (by simp only [List.length_append, rowF_len, hY]; have : zero26.length = 6 := rfl; omega) rfl]
    simp only [List.set_set]
    have hl : (rowF (delL L i)).length = (L.length - 1) * 6 := by rw [rowF_len]; omega
    congr 3
    unfold splice
    rw [List.take_append_of_le_length (by omega), List.take_of_length_le (by omega), List.drop_of_length_le (by rw [List.length_append, hl, hY]; exact Nat.le_refl _), List.append_nil]
  have c1 : aClear tt (H.set b ⟨rowF (delL L i) ++ Y, 6, true⟩) [22] (.slice (some ⟨b, (L.length - 1) * 6, none⟩) 1 (C - (L.length - 1))) = some (.tuple #[], H.set b ⟨rowF (delL L i) ++ zero26, 6, true⟩) :=
    aClear_at tt22 tt26 (by decide) rfl hw2
  generalize H.set b ⟨rowF (delL L i) ++ zero26, 6, true⟩ = T2 at *
  generalize H.set b ⟨rowF (delL L i) ++ Y, 6, true⟩ = T1 at *
  refine sim_of_ax tok mixed Tryz.func30 rfl (by kernel_rfl) (by kernel_rfl) (by simp only [Tryz.ntmps30, List.size_toArray, List.length_cons, List.length_nil]; omega) ?_
  simp -implicitDefEqProofs only [go_sem, simprocAttr, wa_cond, axC_t, axC_f, s1, e0, d1]
  refine ax_loud (by kernel_rfl) ?_
  simp -implicitDefEqProofs only [go_sem, simprocAttr, wa_cond, axC_t, axC_f, s2, s3, a1, s4, e0, wl_clear, c1, res30]
theorem delS (H : Heap) {b i : Nat} {L : List RR} (hL : OwnR H b L) (hi : i < L.length) (h2 : 2 ≤ L.length) (hlen : L.length ≤ 1000) :
    Sim Tryz.prog 30 #[.slice (some ⟨b, 0, none⟩) L.length 0, .int .i64 (i : Nat), .int .i64 ((i + 1 : Nat) : Int)] H
      (.slice (some ⟨b, 0, none⟩) (L.length - 1) 0) (H.set b ⟨rowF (delL L i) ++ zero26, 6, true⟩) := by
  have hB : H[b]? = some ⟨rowF L, 6, true⟩ := hL.blk
  have hbl := Own.lt hL
  refine ⟨(delCap H hL hi h2 (Nat.le_refl _) hlen).1, fun ρ W ARGS hM hA => ?_⟩
  have hs := hA.1
  obtain ⟨A0, A1, A2, rfl⟩ : ∃ A0 A1 A2, ARGS = #[A0, A1, A2] := by
    match ARGS, hs with
    | ⟨[x, y, z]⟩, _ => exact ⟨x, y, z, rfl⟩
  have v0 := hA.2 0 (by simp) (by simp)
  have v1 := hA.2 1 (by simp) (by simp)
  have v2 := hA.2 2 (by simp) (by simp)
  simp only [List.getElem_toArray, List.getElem_cons_zero, List.getElem_cons_succ] at v0 v1 v2
  obtain ⟨p, C, hp, rfl, hnC, _, hext, l⟩ := VR.slice_own hM v0 hB rfl (by omega)
  have hext := hext rfl
  have hnew : VRs ρ #[.slice (some ⟨b, 0, none⟩) L.length C, .int .i64 (i : Nat), .int .i64 ((i + 1 : Nat) : Int)] #[.slice (some ⟨p.blk, p.off + 0, none⟩) L.length C, A1, A2] := by
    refine ⟨rfl, fun j g1 g2 => ?_⟩
    match j, g1, g2 with
    | 0, _, _ => exact .slice b 0 _ C p C hp hnC (.inr rfl) (fun h => by omega)
    | 1, _, _ => exact v1
    | 2, _, _ => exact v2
  refine ((delCap H hL hi h2 hnC hlen).2 ρ W _ hM hnew).mono ?_
  rintro e W' ⟨V, ρ', rfl, hv, hst⟩
  have hB3 : (H.set b ⟨rowF (delL L i) ++ zero26, 6, true⟩)[b]? = some ⟨rowF (delL L i) ++ zero26, 6, true⟩ := List.getElem?_set_self hbl
  obtain ⟨p', C', hp', rfl, hn', hcC, _, _⟩ := VR.slice_own hst.mem hv hB3 rfl (by omega)
  have hb' := still_lies hst hp hB3 rfl
  rw [hb'] at hp'; cases hp'
  have hcC : C' = C := by omega
  subst hcC
  exact ⟨_, _, rfl, .slice b 0 _ 0 p C' hb' hn' (.inl rfl) (fun _ => hext), hst⟩
end Go.Proofs.YthhmkaikopdmjaaGreat
namespace Go.Proofs.YthhmkaikopdmjaaGreat
open Go Go.Fw
theorem has_mem {l : List RR} {r : RR} (ho : Ord l) (hr : r.err = 0) : hasR l r = true ↔ r ∈ l := by
  rw [has_any ho hr]
  simp only [List.any_eq_true, decide_eq_true_eq]
  exact ⟨fun ⟨x, h, e⟩ => e ▸ h, fun h => ⟨r, h, rfl⟩⟩
theorem insL_perm (l : List RR) (i : Nat) (r : RR) : (insL l i r).Perm (r :: l) := by
  unfold insL
  have := @List.perm_middle _ r (l.take i) (l.drop i)
  rw [List.take_append_drop] at this
  exact this
theorem insL_len (l : List RR) (i : Nat) (r : RR) : (insL l i r).length = l.length + 1 := (insL_perm l i r).length_eq
theorem insL_mem {l : List RR} {i : Nat} {r x : RR} : x ∈ insL l i r ↔ x = r ∨ x ∈ l := by rw [(insL_perm l i r).mem_iff, List.mem_cons]
theorem insL_ord {l : List RR} {r : RR} (ho : Ord l) (hr : r.err = 0) (hn : r ∉ l) (h : l.length < 64) : Ord (insL l (cntLess l r) r) := by
  obtain ⟨_, okr⟩ := RR.err_zero.1 hr
  refine ⟨fun e => by have := insL_len l (cntLess l r) r; rw [e] at this; simp at this, by rw [insL_len]; omega, fun x hx => ?_, ?_⟩
  · rcases insL_mem.1 hx with rfl | hx
    · exact hr
    · exact ho.ok x hx
  · unfold insL
    have hp := ho.ord
    rw [← List.take_append_drop (cntLess l r) l, List.pairwise_append] at hp
    obtain ⟨p1, p2, p3⟩ := hp
    have lo : ∀ x ∈ l.take (cntLess l r), x.rot.lt r.rot := by
      intro x hx
      obtain ⟨i, hi, rfl⟩ := List.mem_iff_getElem.1 hx
      rw [List.length_take] at hi
      rw [List.getElem_take]
      have := cntLess_below l r i (by omega) (by omega)
      rw [cmpS_ok (ho.ok _ (List.getElem_mem _)) hr] at this
      exact this
    have hi : ∀ x ∈ l.drop (cntLess l r), r.rot.lt x.rot := by
      intro x hx
      obtain ⟨i, hi, rfl⟩ := List.mem_iff_getElem.1 hx
      rw [List.length_drop] at hi
      rw [List.getElem_drop]
      have h1 := cntLess_above ho hr (cntLess l r + i) (by omega) (by omega)
      have e1 := ho.ok _ (List.getElem_mem (show cntLess l r + i < l.length by omega))
      rw [cmpS_ok e1 hr] at h1
      obtain ⟨ea, oka⟩ := RR.err_zero.1 e1
      rcases Rot.lt_cases oka okr with h | h | h
      · exact absurd h h1
      · refine absurd (List.getElem_mem (show cntLess l r + i < l.length by omega)) ?_
        have : l[cntLess l r + i] = r := (cmpS_zero e1 hr).1 (by rw [cmpS_ok e1 hr]; exact (Rot.cmp_zero oka okr).2 h)
        rw [this]; exact hn
      · exact h
    rw [List.pairwise_append, List.pairwise_cons]
    refine ⟨p1, ⟨hi, p2⟩, fun x hx y hy => ?_⟩
    rcases List.mem_cons.1 hy with rfl | hy
    · exact lo x hx
    · exact p3 x hx y hy
theorem ord_perm {l m : List RR} (hl : Ord l) (hm : Ord m) (h : l.Perm m) : l = m := by
  refine h.eq_of_pairwise (fun a b ha hb h1 h2 => ?_) hl.ord hm.ord
  have oka := (RR.err_zero.1 (hl.ok a ha)).2
  have okb := (RR.err_zero.1 (hm.ok b hb)).2
  exact absurd (Rot.lt_trans oka okb oka h1 h2) (Rot.lt_irrefl oka)
theorem ord_chk2 {l : List RR} {r : RR} (ho : Ord l) (hr : r.err = 0) : chk2 l r = 0 := by unfold chk2; rw [if_pos (ok_chk ho)]; exact hr
theorem insE_in {l : List RR} {r : RR} (ho : Ord l) (hr : r.err = 0) (h : r ∈ l) : insE l r = 5 := by
  unfold insE; rw [ord_chk2 ho hr, if_neg (by decide), if_pos ((has_mem ho hr).2 h)]
theorem insE_out {l : List RR} {r : RR} (ho : Ord l) (hr : r.err = 0) (h : r ∉ l) (hl : l.length < 64) : insE l r = 0 := by
  unfold insE; rw [ord_chk2 ho hr, if_neg (by decide), if_neg (fun e => h ((has_mem ho hr).1 e)), if_neg (by omega)]
theorem insO_in {l : List RR} {r : RR} (ho : Ord l) (hr : r.err = 0) (h : r ∈ l) : insO l r = [] := by unfold insO; rw [insE_in ho hr h, if_neg (by decide)]
theorem insO_out {l : List RR} {r : RR} (ho : Ord l) (hr : r.err = 0) (h : r ∉ l) (hl : l.length < 64) : insO l r = insL l (cntLess l r) r := by unfold insO; rw [insE_out ho hr h hl, if_pos rfl]
theorem ins_two {l : List RR} {a b : RR} (ho : Ord l) (ha : a.err = 0) (hb : b.err = 0) (na : a ∉ l) (nb : b ∉ l) (hl : l.length ≤ 12) :
    insE (insO l a) b = insE (insO l b) a ∧ insO (insO l a) b = insO (insO l b) a := by
  rw [insO_out ho ha na (by omega), insO_out ho hb nb (by omega)]
  have oa := insL_ord ho ha na (by omega)
  have ob := insL_ord ho hb nb (by omega)
  have la := insL_len l (cntLess l a) a
  have lb := insL_len l (cntLess l b) b
  by_cases hab : a = b
  · subst hab; exact ⟨rfl, rfl⟩
  have nb' : b ∉ insL l (cntLess l a) a := fun h => (insL_mem.1 h).elim (fun e => hab e.symm) nb
  have na' : a ∉ insL l (cntLess l b) b := fun h => (insL_mem.1 h).elim hab na
  rw [insE_out oa hb nb' (by omega), insE_out ob ha na' (by omega), insO_out oa hb nb' (by omega), insO_out ob ha na' (by omega)]
  refine ⟨rfl, ord_perm (insL_ord oa hb nb' (by omega)) (insL_ord ob ha na' (by omega)) ?_⟩
  exact (insL_perm _ _ _).trans (((insL_perm _ _ _).cons _).trans ((List.Perm.swap _ _ _).trans (((insL_perm _ _ _).symm.cons _).trans (insL_perm _ _ _).symm)))
theorem ins_at (l : List RR) (i : Nat) (r : RR) (hi : i ≤ l.length) : (insL l i r)[i]? = some r := by
  unfold insL
  rw [List.getElem?_append_right (by simp; omega), List.length_take, Nat.min_eq_left hi, Nat.sub_self]; rfl
theorem ins_found {l : List RR} {r : RR} (ho : Ord l) (hr : r.err = 0) (hn : r ∉ l) (hl : l.length < 64) : hasR (insL l (cntLess l r) r) r = true ∧ findI (insL l (cntLess l r) r) r = cntLess l r := by
  have h1 := insL_ord ho hr hn hl
  have h2 : hasR (insL l (cntLess l r) r) r = true := (has_mem h1 hr).2 (insL_mem.2 (.inl rfl))
  refine ⟨h2, ?_⟩
  unfold findI
  rw [if_pos h2]
  have h3 := ins_at l (cntLess l r) r (cntLess_le l r)
  obtain ⟨h4, h5⟩ := List.getElem?_eq_some_iff.1 h3
  exact (find_law h1 hr h4 h5).symm
end Go.Proofs.YthhmkaikopdmjaaGreat
namespace Go.Proofs.YthhmkaikopdmjaaGreat
open Go Go.Fw
theorem rd_six' {T : Heap} {p : Nat} {x : RR} (h : T[p]? = some ⟨x.cells, 1, true⟩) : rd T p 0 6 = some x.cells := by
  unfold rd
  rw [h]; rfl
theorem row2_at (T : Heap) (a b : RR) : RL (T ++ [⟨a.cells ++ b.cells, 6, true⟩]) (.slice (some ⟨T.length, 0, none⟩) 2 2) [a, b] :=
  .inr ⟨T.length, 0, 2, rfl, (OwnR.new T [a, b]).at (c := 2) (.inr (by simp))⟩
theorem fine_parts2 {l : List RR} {a b : RR} (h : fineB l [a, b] = true) : (∀ x ∈ l, x.le 64) ∧ a.le 64 ∧ b.le 64 ∧ l.length ≤ 12 ∧ chkR l = 0 ∧ a.err = 0 ∧ b.err = 0 := by
  unfold fineB at h
  simp only [Bool.and_eq_true, Bool.not_eq_true', Bool.or_eq_false_iff, decide_eq_true_eq, List.any_cons, List.any_nil, decide_eq_false_iff_not, and_true, ne_eq, Decidable.not_not] at h
  obtain ⟨⟨h1, h2, h3⟩, h4, h5, h6, h7⟩ := h
  exact ⟨(great_le h1).1, RR.long_le h2, RR.long_le h3, h4, h5, h6, h7⟩
theorem del_ins (l : List RR) (i : Nat) (r : RR) (hi : i ≤ l.length) : delL (insL l i r) i = l := by
  unfold delL insL
  rw [List.take_append_of_le_length (by simp; omega), List.take_of_length_le (by simp; omega), List.drop_append, List.length_take, Nat.min_eq_left hi, List.drop_of_length_le (by simp; omega), List.nil_append, show i + 1 - i = 1 by omega]
  simp
theorem RL.del {T : Heap} {b : Nat} {L : List RR} {Y : List Value} (h : T[b]? = some ⟨rowF L ++ Y, 6, true⟩) : RL T (.slice (some ⟨b, 0, none⟩) L.length 0) L :=
  .inr ⟨b, 0, 0, by simp, .inl rfl, by decide, RR.cells_all L, ⟨_, h, rfl, by simp only [List.length_append, rowF_len, List.length_map]; omega, by
    simp only [List.drop_zero, List.length_map]
    rw [List.take_append_of_le_length (by rw [rowF_len]; omega), List.take_of_length_le (by rw [rowF_len]; omega)]; rfl⟩, RR.cells_ok L⟩
theorem insO_le {l : List RR} {r : RR} {k : Nat} (hl : ∀ x ∈ l, x.le k) (hr : r.le k) : ∀ x ∈ insO l r, x.le k := by
  intro x hx
  unfold insO at hx
  split at hx
  · rcases insL_mem.1 hx with rfl | h
    · exact hr
    · exact hl x h
  · cases hx
theorem insO_len (l : List RR) (r : RR) : (insO l r).length ≤ l.length + 1 := by
  unfold insO; split
  · rw [insL_len]; exact Nat.le_refl _
  · simp
theorem insertsS (H : Heap) {v : Value} {l : List RR} {a b : RR} (hv : RL H v l) : Sim Tryz.prog 8 #[v, a.val, b.val] H (.bool true) H := by
  refine flat_ex rfl ?_
  have aw := awakeS
  obtain ⟨H0, hH0⟩ : ∃ H0, H0 = H ++ [(⟨a.cells, 1, true⟩ : Blk), ⟨b.cells, 1, true⟩, ⟨a.cells ++ b.cells, 6, true⟩] := ⟨_, rfl⟩
  have hE0 : Ext H H0 := by rw [hH0]; exact .app _ _
  have hv1 : RL H0 v l := hv.ext hE0
  have hw : RL H0 (.slice (some ⟨H.length + 2, 0, none⟩) 2 2) [a, b] := by
    have := row2_at (H ++ [⟨a.cells, 1, true⟩, ⟨b.cells, 1, true⟩]) a b
    simp only [List.append_assoc, List.cons_append, List.nil_append, List.length_append, List.length_cons, List.length_nil, Nat.zero_add] at this
    rw [hH0]; exact this
  have o1 := fine45 _ hv1 hw (by simp)
  have ra : ∀ {T}, Ext H0 T → rd T H.length 0 6 = some a.cells := fun h => rd_six' (h.get (by rw [hH0]; simp))
  have rb : ∀ {T}, Ext H0 T → rd T (H.length + 1) 0 6 = some b.cells := fun h => rd_six' (h.get (by rw [hH0]; simp))
  unfold RR.cells at hH0 ra rb
  simp only [List.cons_append, List.nil_append] at hH0
  unfold RR.val rV
  by_cases hf : fineB l [a, b] = true
  case neg =>
    simp only [Bool.not_eq_true] at hf
    rw [hf, hH0] at o1
    refine sim_ex tok mixed Tryz.func8 rfl (by kernel_rfl) (by kernel_rfl) (by simp only [Tryz.ntmps8, List.size_toArray, List.length_cons, List.length_nil]; omega) ?_
    simp -implicitDefEqProofs only [go_sem, simprocAttr, mkI, iV, mkQ, qV, fV, ofV, rV, mkR, build22_2]
    refine wl_callV _ (by simp -implicitDefEqProofs only [go_sem, simprocAttr, mkI, iV, mkQ, qV, fV, ofV, rV, mkR, wa_cond, axC_t, axC_f]) o1 ?_
    simp -implicitDefEqProofs only [go_sem, simprocAttr, mkI, iV, mkQ, qV, fV, ofV, rV, mkR, wa_cond, axC_t, axC_f]
    refine wl_callV _ (by simp -implicitDefEqProofs only [go_sem, simprocAttr, mkI, iV, mkQ, qV, fV, ofV, rV, mkR]) (aw _) ?_
    simp -implicitDefEqProofs only [go_sem, simprocAttr, mkI, iV, mkQ, qV, fV, ofV, rV, mkR]
    simp -implicitDefEqProofs only [go_sem, simprocAttr, mkI, iV, mkQ, qV, fV, ofV, rV, mkR, res8]
    first | exact .app _ _ | exact ⟨.app _ _, rfl⟩ | exact .refl _ | exact ⟨.refl _, rfl⟩
  rw [hf] at o1
  obtain ⟨hle, hla, hlb, h12, hchk, hea, heb⟩ := fine_parts2 hf
  have ho := chk_ok hchk
  have i1 := InsertS H0 hv1 hle hla (by decide) (by omega)
  have r0 := ra (.refl H0)
  by_cases hia : a ∈ l
  · have hE := insE_in ho hea hia
    have hO := insO_in ho hea hia
    rw [hE, hO] at i1
    have hcont : (l.any fun x => decide (a = x)) = true := by rw [List.any_eq_true]; exact ⟨a, hia, by simp⟩
    have hcr : ∀ {T}, Ext H0 T → Sim Tryz.prog 23 #[v, a.val] T (.bool true) T := fun h => hcont ▸ containsR _ (hv1.ext h) (by omega)
    unfold RR.val rV at i1 hcr
    rw [hH0] at o1 i1 r0
    refine sim_ex tok mixed Tryz.func8 rfl (by kernel_rfl) (by kernel_rfl) (by simp only [Tryz.ntmps8, List.size_toArray, List.length_cons, List.length_nil]; omega) ?_
    simp -implicitDefEqProofs only [go_sem, simprocAttr, mkI, iV, mkQ, qV, fV, ofV, rV, mkR, build22_2]
    refine wl_callV _ (by simp -implicitDefEqProofs only [go_sem, simprocAttr, mkI, iV, mkQ, qV, fV, ofV, rV, mkR, wa_cond, axC_t, axC_f]) o1 ?_
    simp -implicitDefEqProofs only [go_sem, simprocAttr, mkI, iV, mkQ, qV, fV, ofV, rV, mkR, wa_cond, axC_t, axC_f]
    refine wl_callT _ (by simp -implicitDefEqProofs only [go_sem, simprocAttr]) i1 ?_
    rintro _ T1 hE1 ⟨x, rfl, hx⟩
    rw [← hH0] at hE1
    have r1 := ra hE1
    have e1 := hx.len (tt := tt) tt22
    simp only [List.length_nil] at e1
    simp -implicitDefEqProofs only [go_sem, simprocAttr, mkI, iV, mkQ, qV, fV, ofV, rV, mkR, wa_cond, axC_t, axC_f, r1]
    refine wl_callV _ (by simp -implicitDefEqProofs only [go_sem, simprocAttr, mkI, iV, mkQ, qV, fV, ofV, rV, mkR, e1]) (hcr hE1) ?_
    simp -implicitDefEqProofs only [go_sem, simprocAttr, mkI, iV, mkQ, qV, fV, ofV, rV, mkR, e1]
    refine wl_callV _ (by simp -implicitDefEqProofs only [go_sem, simprocAttr, mkI, iV, mkQ, qV, fV, ofV, rV, mkR]) (aw _) ?_
    simp -implicitDefEqProofs only [go_sem, simprocAttr, mkI, iV, mkQ, qV, fV, ofV, rV, mkR]
    simp -implicitDefEqProofs only [go_sem, simprocAttr, res8]
    exact hE0.trans hE1
  have hE := insE_out ho hea hia (by omega)
  have hO := insO_out ho hea hia (by omega)
  obtain ⟨hfd, hfi⟩ := ins_found ho hea hia (by omega)
  have hoX := insL_ord ho hea hia (by omega)
  have hXl := insL_len l (cntLess l a) a
  have hcl := cntLess_le l a
  have hdi := del_ins l (cntLess l a) a hcl
  have hleX : ∀ x ∈ insL l (cntLess l a) a, x.le 64 := by rw [← hO]; exact insO_le hle hla
  have i2 := fun {T} {x} (hx : RL T x (insL l (cntLess l a) a)) => InsertS T hx hleX hlb (by decide) (by omega)
  have hlaw : (insE l b = 5 ∧ insE (insL l (cntLess l a) a) b = 5) ∨ (insE l b = 0 ∧ insE (insL l (cntLess l a) a) b = insE (insO l b) a ∧ insO (insL l (cntLess l a) a) b = insO (insO l b) a) := by
    by_cases hib : b ∈ l
    · exact .inl ⟨insE_in ho heb hib, insE_in hoX heb (insL_mem.2 (.inr hib))⟩
    · have := ins_two ho hea heb hia hib h12
      rw [hO] at this
      exact .inr ⟨insE_out ho heb hib (by omega), this⟩
  have hl3 := insO_len l b
  have hl4 := insO_len (insL l (cntLess l a) a) b
  have i4 := fun {T} {z} (hz : RL T z (insO l b)) => InsertS T hz (insO_le hle hlb) hla (by decide) (by omega)
  have i3 := fun {T} (h : Ext H0 T) => InsertS T (hv1.ext h) hle hlb (by decide) (by omega)
  have ck := ok_chk hoX
  have w1 : IntKind.i64.wrap (((cntLess l a : Nat) : Int) + 1) = ((cntLess l a + 1 : Nat) : Int) := by rw [w64 (by omega) (by omega)]; rfl
  have g1 : ¬ ((cntLess l a : Nat) : Int) < 0 := by omega
  have fv := findV_eq (ord_chk2 hoX hea)
  rw [hfi, hfd] at fv
  have hql : cntLess l a < (insL l (cntLess l a) a).length := by omega
  have h2X : 2 ≤ (insL l (cntLess l a) a).length := by have := List.length_pos_iff.2 ho.ne; omega
  have hXle : (insL l (cntLess l a) a).length ≤ 1000 := by omega
  rw [hE, hO] at i1
  clear hE hO hfd hfi
  generalize insL l (cntLess l a) a = X at *
  generalize cntLess l a = q at *
  have g2 : ¬ (X.length : Int) ≤ ((q : Nat) : Int) := by omega
  have o3 := fun {T} {x} (hx : RL T x X) => FindS T hx hleX hla (by decide) (by omega)
  rw [fv] at o3
  have o4 := fun {T} {x} (hx : RL T x X) => CheckS T hx hleX (by decide) (by omega)
  rw [ck] at o4
  unfold RR.val rV at i1 i2 i3 i4 o3
  rw [hH0] at o1 i1 r0
  refine sim_ex tok mixed Tryz.func8 rfl (by kernel_rfl) (by kernel_rfl) (by simp only [Tryz.ntmps8, List.size_toArray, List.length_cons, List.length_nil]; omega) ?_
  simp -implicitDefEqProofs only [go_sem, simprocAttr, mkI, iV, mkQ, qV, fV, ofV, rV, mkR, build22_2]
  refine wl_callV _ (by simp -implicitDefEqProofs only [go_sem, simprocAttr, mkI, iV, mkQ, qV, fV, ofV, rV, mkR, wa_cond, axC_t, axC_f]) o1 ?_
  simp -implicitDefEqProofs only [go_sem, simprocAttr, mkI, iV, mkQ, qV, fV, ofV, rV, mkR, wa_cond, axC_t, axC_f]
  refine wl_callT _ (by simp -implicitDefEqProofs only [go_sem, simprocAttr]) i1 ?_
  rintro _ T1 hE1 ⟨x, rfl, hx⟩
  rw [← hH0] at hE1
  have r1 := ra hE1
  have e1 := hx.len (tt := tt) tt22
  have o3 := o3 hx
  have o4 := o4 hx
  obtain ⟨bx, ix, cx, rfl, hAx⟩ := hx.at hoX.ne
  clear i1 o1 r0
  simp -implicitDefEqProofs only [go_sem, simprocAttr, mkI, iV, mkQ, qV, fV, ofV, rV, mkR, wa_cond, axC_t, axC_f, r1]
  refine wl_callV _ (by simp -implicitDefEqProofs only [go_sem, simprocAttr, mkI, iV, mkQ, qV, fV, ofV, rV, mkR, e1, g1, g2]) o3 ?_
  simp -implicitDefEqProofs only [go_sem, simprocAttr, mkI, iV, mkQ, qV, fV, ofV, rV, mkR, e1, g1, g2]
  refine wl_callV _ (by simp -implicitDefEqProofs only [go_sem, simprocAttr, mkI, iV, mkQ, qV, fV, ofV, rV, mkR]) o4 ?_
  simp -implicitDefEqProofs only [go_sem, simprocAttr, mkI, iV, mkQ, qV, fV, ofV, rV, mkR]
  refine wl_callT _ (by simp -implicitDefEqProofs only [go_sem, simprocAttr]) (cloneR T1 hAx hoX.ne (by omega)) ?_
  rintro _ T2 hE2 ⟨b2, hb2, rfl, hown2⟩
  simp -implicitDefEqProofs only [go_sem, simprocAttr, mkI, iV, mkQ, qV, fV, ofV, rV, mkR, w1]
  refine wl_callF _ (by simp -implicitDefEqProofs only [go_sem, simprocAttr]) (delS T2 hown2 hql h2X hXle) (fun h => by cases h) ?_
  obtain ⟨T3, hT3⟩ : ∃ T3, T3 = T2.set b2 ⟨rowF (delL X q) ++ zero26, 6, true⟩ := ⟨_, rfl⟩
  have hE3 : Ext T1 T3 := by rw [hT3]; exact hE2.set hb2 _
  have hdel : RL T3 (.slice (some ⟨b2, 0, none⟩) l.length 0) l := by
    have := RL.del (T := T3) (b := b2) (L := delL X q) (Y := zero26) (by rw [hT3]; exact List.getElem?_set_self (Own.lt hown2))
    rw [hdi] at this; exact this
  rw [← hT3, show X.length - 1 = l.length by omega]
  clear hT3
  have hE03 := hE1.trans hE3
  have oq := equalR T3 hdel (hv1.ext hE03) (by omega)
  rw [decide_eq_true rfl] at oq
  have r3 := rb hE03
  simp -implicitDefEqProofs only [go_sem, simprocAttr, mkI, iV, mkQ, qV, fV, ofV, rV, mkR]
  refine wl_callV _ (by simp -implicitDefEqProofs only [go_sem, simprocAttr, mkI, iV, mkQ, qV, fV, ofV, rV, mkR, wa_cond, axC_t, axC_f, r3]) oq ?_
  simp -implicitDefEqProofs only [go_sem, simprocAttr, mkI, iV, mkQ, qV, fV, ofV, rV, mkR, wa_cond, axC_t, axC_f, r3]
  refine wl_callT _ (by simp -implicitDefEqProofs only [go_sem, simprocAttr]) (i2 (hx.ext hE3)) ?_
  rintro _ T4 hE4 ⟨y, rfl, hy⟩
  have hE04 := hE03.trans hE4
  have r4 := rb hE04
  simp -implicitDefEqProofs only [go_sem, simprocAttr, mkI, iV, mkQ, qV, fV, ofV, rV, mkR, r4]
  refine wl_callT _ (by simp -implicitDefEqProofs only [go_sem, simprocAttr]) (i3 hE04) ?_
  rintro _ T5 hE5 ⟨z, rfl, hz⟩
  have hE05 := hE04.trans hE5
  have r5 := ra hE05
  simp -implicitDefEqProofs only [go_sem, simprocAttr, mkI, iV, mkQ, qV, fV, ofV, rV, mkR, r5]
  refine wl_callT _ (by simp -implicitDefEqProofs only [go_sem, simprocAttr]) (i4 hz) ?_
  rintro _ T6 hE6 ⟨w, rfl, hw⟩
  have hE06 := hE05.trans hE6
  rcases hlaw with ⟨n1, n2⟩ | ⟨n1, n2, n3⟩
  · rw [n1, n2]
    simp -implicitDefEqProofs only [go_sem, simprocAttr, mkI, iV, mkQ, qV, fV, ofV, rV, mkR, wa_cond, axC_t, axC_f]
    refine wl_callV _ (by simp -implicitDefEqProofs only [go_sem, simprocAttr, mkI, iV, mkQ, qV, fV, ofV, rV, mkR]) (aw _) ?_
    simp -implicitDefEqProofs only [go_sem, simprocAttr, mkI, iV, mkQ, qV, fV, ofV, rV, mkR]
    simp -implicitDefEqProofs only [go_sem, simprocAttr, res8]
    exact hE0.trans hE06
  · have oz := equalR T6 ((hy.ext hE5).ext hE6) hw (by omega)
    rw [n3, decide_eq_true rfl] at oz
    rw [n1, n2]
    generalize insE (insO l b) a = E at *
    simp -implicitDefEqProofs only [go_sem, simprocAttr, mkI, iV, mkQ, qV, fV, ofV, rV, mkR, wa_cond, axC_t, axC_f]
    refine wl_callV _ (by simp -implicitDefEqProofs only [go_sem, simprocAttr, mkI, iV, mkQ, qV, fV, ofV, rV, mkR]) oz ?_
    simp -implicitDefEqProofs only [go_sem, simprocAttr, mkI, iV, mkQ, qV, fV, ofV, rV, mkR]
    refine wl_callV _ (by simp -implicitDefEqProofs only [go_sem, simprocAttr, mkI, iV, mkQ, qV, fV, ofV, rV, mkR]) (aw _) ?_
    simp -implicitDefEqProofs only [go_sem, simprocAttr, mkI, iV, mkQ, qV, fV, ofV, rV, mkR]
    simp -implicitDefEqProofs only [go_sem, simprocAttr, res8]
    exact hE0.trans hE06
end Go.Proofs.YthhmkaikopdmjaaGreat
namespace Go.Proofs.YthhmkaikopdmjaaGreat
open Go Go.Fw Go.ChangeShapes Go.WideShapes Go.ChangeAt Go.RowKit Go.Deep
set_option linter.unusedVariables false
set_option maxRecDepth 100000
theorem own : ownKnob Tryz.prog.godebug = none := by kernel_rfl
theorem laid : laidOutB Tryz.prog = true := by kernel_rfl
theorem cells24 : Tryz.prog.cellsOf 24 = 3 := by kernel_rfl
theorem cells26 : Tryz.prog.cellsOf 26 = 6 := by kernel_rfl
theorem cells4 : Tryz.prog.cellsOf 4 = 1 := by kernel_rfl
theorem cells9 : Tryz.prog.cellsOf 9 = 1 := by kernel_rfl
theorem under4 : Tryz.prog.underlying 4 = some .bool := Tryz.underlying4
theorem under9 : Tryz.prog.underlying 9 = some .string := Tryz.underlying9
section
variable {H : Type} {enc : TypeId × Value → H} {w : World} {base : Nat} {spare : Nat → Bool} {held : Bool}
theorem open_rat {n : Nat} {cs : List Value} {x : DataW H × List MemPlace} (h : DataW.trod enc Tryz.prog w base spare held n 24 cs = some x) : ∃ g a b, cs = [.bool g, .string (bs a), .string (bs b)] := by
  obtain ⟨xs, m, _, _, hl, _, hf⟩ := DataW.trod_struct Tryz.underlying24 h
  rw [cells24] at hl
  match cs, hl with
  | [v0, v1, v2], _ =>
    have f0 : DataW.trod enc Tryz.prog w base spare held m 4 (([v0, v1, v2].drop 0).take (Tryz.prog.cellsOf 4)) = xs[0]? := hf 0 _ rfl
    have f1 : DataW.trod enc Tryz.prog w base spare held m 9 (([v0, v1, v2].drop 1).take (Tryz.prog.cellsOf 9)) = xs[1]? := hf 1 _ rfl
    have f2 : DataW.trod enc Tryz.prog w base spare held m 9 (([v0, v1, v2].drop 2).take (Tryz.prog.cellsOf 9)) = xs[2]? := hf 2 _ rfl
    rw [cells4] at f0
    rw [cells9] at f1 f2
    simp only [List.drop_zero, List.drop_succ_cons, List.take_succ_cons, List.take_zero] at f0 f1 f2
    have e0 : ∃ y, DataW.trod enc Tryz.prog w base spare held m 4 [v0] = some y := by rw [f0]; exact ⟨_, List.getElem?_eq_getElem (by simp_all)⟩
    have e1 : ∃ y, DataW.trod enc Tryz.prog w base spare held m 9 [v1] = some y := by rw [f1]; exact ⟨_, List.getElem?_eq_getElem (by simp_all)⟩
    have e2 : ∃ y, DataW.trod enc Tryz.prog w base spare held m 9 [v2] = some y := by rw [f2]; exact ⟨_, List.getElem?_eq_getElem (by simp_all)⟩
    obtain ⟨y0, e0⟩ := e0
    obtain ⟨y1, e1⟩ := e1
    obtain ⟨y2, e2⟩ := e2
    obtain ⟨g, h0, _⟩ := DataW.trod_bool under4 e0
    obtain ⟨s1, h1, _, _⟩ := DataW.trod_string under9 e1
    obtain ⟨s2, h2, _, _⟩ := DataW.trod_string under9 e2
    injection h0 with h0
    injection h1 with h1
    injection h2 with h2
    subst h0 h1 h2
    exact ⟨g, bl s1, bl s2, by rw [bs_bl, bs_bl]⟩
theorem open_rot {n : Nat} {cs : List Value} {x : DataW H × List MemPlace} (h : DataW.trod enc Tryz.prog w base spare held n 26 cs = some x) : ∃ r : RR, cs = r.cells := by
  obtain ⟨xs, m, _, _, hl, hxl, hf⟩ := DataW.trod_struct Tryz.underlying26 h
  rw [cells26] at hl
  match cs, hl with
  | [v0, v1, v2, v3, v4, v5], _ =>
    have f0 : DataW.trod enc Tryz.prog w base spare held m 24 (([v0, v1, v2, v3, v4, v5].drop 0).take (Tryz.prog.cellsOf 24)) = xs[0]? := hf 0 _ rfl
    have f1 : DataW.trod enc Tryz.prog w base spare held m 24 (([v0, v1, v2, v3, v4, v5].drop 3).take (Tryz.prog.cellsOf 24)) = xs[1]? := hf 1 _ rfl
    rw [cells24] at f0 f1
    simp only [List.drop_zero, List.drop_succ_cons, List.take_succ_cons, List.take_zero] at f0 f1
    have e0 : ∃ y, DataW.trod enc Tryz.prog w base spare held m 24 [v0, v1, v2] = some y := by rw [f0]; exact ⟨_, List.getElem?_eq_getElem (by simp_all)⟩
    have e1 : ∃ y, DataW.trod enc Tryz.prog w base spare held m 24 [v3, v4, v5] = some y := by rw [f1]; exact ⟨_, List.getElem?_eq_getElem (by simp_all)⟩
    obtain ⟨y0, e0⟩ := e0
    obtain ⟨y1, e1⟩ := e1
    obtain ⟨g, a, b, h0⟩ := open_rat e0
    obtain ⟨g', a', b', h1⟩ := open_rat e1
    simp only [List.cons.injEq, and_true] at h0 h1
    obtain ⟨rfl, rfl, rfl⟩ := h0
    obtain ⟨rfl, rfl, rfl⟩ := h1
    exact ⟨⟨g, a, b, g', a', b'⟩, rfl⟩
end
theorem vr_cells {ρ : Inj} (r : RR) : ∀ (i : Nat) (v : Value), r.cells[i]? = some v → VR ρ v v := by
  intro i v h
  unfold RR.cells at h
  match i with
  | 0 => cases h; exact .bool _
  | 1 => cases h; exact .str _
  | 2 => cases h; exact .str _
  | 3 => cases h; exact .bool _
  | 4 => cases h; exact .str _
  | 5 => cases h; exact .str _
  | i + 6 => cases h
theorem vr_rot (ρ : Inj) (r : RR) : VR ρ r.val r.val := by
  refine .agg _ _ rfl fun i h1 h2 => ?_
  exact vr_cells r i _ (by rw [← List.getElem?_toArray]; exact Array.getElem?_eq_getElem h1)
theorem arg_rot {H : Type} {enc : TypeId × Value → H} {w : World} {base : Nat} {spare : Nat → Bool} {held : Bool} {r : Reach} {b0 : Nat} {v : Value} {d : DataW H} {ps : List MemPlace} (hv : Value.okWide Tryz.prog w r b0 26 v) (h : DataW.Trod enc Tryz.prog w base spare held 26 v d ps) : ∃ x : RR, v = x.val := by
  obtain ⟨n, h⟩ := h
  simp only [Value.okWide, Tryz.underlying26] at hv
  obtain ⟨cs, rfl, _⟩ := hv
  obtain ⟨x, hx⟩ := open_rot h
  refine ⟨x, ?_⟩
  have : cs.toList = x.cells := hx
  show Value.agg cs = _
  unfold RR.val rV
  rw [← Array.toArray_toList (xs := cs), this]
  rfl
def Safe (ρ : Inj) (H : Heap) : Prop := ∀ b p B, ρ b = some (.lies p) → H[b]? = some B → B.own = false
theorem below_of {ρ ρ' : Inj} {H H' : Heap} {W W' : World} (hs : Safe ρ H) (s : Step ρ H W ρ' H' W') : Below W.heap.size W W' :=
  ⟨s.frame.os, s.frame.tape, s.frame.output, s.frame.size, fun k hk => s.frame.block k hk (fun ⟨b, p, B, h1, h2, h3, _⟩ => by rw [hs b p B h1 h2] at h3; cases h3)⟩
theorem mem_nil (W : World) : Mem (fun _ => Option.none) [] W :=
  ⟨(fun b h => absurd rfl h), (fun b h => by cases h), (fun b p h => by cases h), (fun b b' p p' B _ h => by cases h)⟩
theorem flat_get : ∀ {l : List RR} {i : Nat} {v : Value}, (l.map RR.cells).flatten[i]? = some v → ∃ j, ∃ h : j < l.length, ∃ q, q < 6 ∧ i = j * 6 + q ∧ l[j].cells[q]? = some v := by
  intro l
  induction l with
  | nil => intro i v h; simp at h
  | cons r l ih =>
    intro i v h
    simp only [List.map_cons, List.flatten_cons] at h
    by_cases hi : i < 6
    · rw [List.getElem?_append_left (by rw [RR.cells_len]; exact hi)] at h
      exact ⟨0, by simp, i, hi, by omega, h⟩
    · rw [List.getElem?_append_right (by rw [RR.cells_len]; omega), RR.cells_len] at h
      obtain ⟨j, hj, q, hq, e, hv⟩ := ih h
      exact ⟨j + 1, by simpa using hj, q, hq, by omega, hv⟩
theorem choose_below {n : Nat} {α : Type} (d : α) {p : Nat → α → Prop} (h : ∀ i, i < n → ∃ a, p i a) : ∃ f : Nat → α, ∀ i, i < n → p i (f i) :=
  ⟨fun i => if hi : i < n then (h i hi).choose else d, fun i hi => by simp only [dif_pos hi]; exact (h i hi).choose_spec⟩
theorem arg_list {H : Type} {enc : TypeId × Value → H} {W : World} {base : Nat} {held : Bool} {r : Reach} {b0 : Nat} {v : Value} {d : DataW H} {ps : List MemPlace} (hv : Value.okWide Tryz.prog W r b0 22 v)
    (h : DataW.Trod enc Tryz.prog W base (fun _ => true) held 22 v d ps) : ∃ (ρ : Inj) (T : Heap) (u : Value) (l : List RR), Mem ρ T W ∧ Safe ρ T ∧ VR ρ u v ∧ RL T u l := by
  obtain ⟨n, h⟩ := h
  obtain ⟨a, len, cap, rfl⟩ := okWide_slice Tryz.underlying22 hv
  rcases open_slice Tryz.underlying22 h with ⟨hcs, _⟩ | ⟨a, len, cap, m, n, D, Pl, hcs, hb, hl, hm, hmm, _, hx⟩
  · simp [Value.cells] at hcs
    obtain ⟨rfl, rfl, rfl⟩ := hcs
    exact ⟨_, [], .slice none 0 0, [], mem_nil W, (fun b p B h => by cases h), .nilslice, .inl ⟨.inl rfl, rfl⟩⟩
  · simp [Value.cells] at hcs
    obtain ⟨rfl, rfl, rfl⟩ := hcs
    simp only [if_true] at hmm
    subst hmm
    rw [cells26] at hx
    by_cases hc : m = 0
    · subst hc
      obtain rfl : len = 0 := by omega
      refine ⟨fun b => if b = 0 then some .dead else none, [deadBlk], .slice (some ⟨0, 0, none⟩) 0 0, [], ⟨fun b h => ?_, fun b h => ?_, fun b p h => ?_, fun b b' p p' B _ h => ?_⟩, fun b p B h => ?_, .sliceNone _ _ _ (by simp), .inl ⟨.inr ⟨_, _, _, rfl⟩, rfl⟩⟩
      · by_cases h0 : b = 0
        · subst h0; simp
        · simp [h0] at h
      · by_cases h0 : b = 0
        · subst h0; rfl
        · simp [h0] at h
      · by_cases h0 : b = 0 <;> simp [h0] at h
      · by_cases h0 : b = 0 <;> simp [h0] at h
      · by_cases h0 : b = 0 <;> simp [h0] at h
    · obtain ⟨f, hf⟩ := choose_below (⟨false, [], [], false, [], []⟩ : RR) (p := fun i r => W.cells? base (a.add (i * 6)) 6 = some r.cells) (fun i hi => by
        obtain ⟨cs', h1, h2⟩ := hx i hi
        obtain ⟨r, hr⟩ := open_rot h2
        exact ⟨r, by rw [h1, hr]⟩)
      have hcell : ∀ j, j < m → ∀ q, q < 6 → W.cell? (a.add (j * 6 + q)) = (f j).cells[q]? := fun j hj q hq => by
        obtain ⟨_, _, h3⟩ := World.cells?_some (hf j hj)
        have := h3 q hq
        rw [← this, add_add]
      have h00 := hcell 0 (by omega) 0 (by decide)
      have hsp : a.spot = none ∧ a.block < W.heap.size := by
        simp only [Nat.zero_mul, Nat.zero_add] at h00
        have e : (f 0).cells[0]? = some (.bool (f 0).g) := rfl
        rw [e] at h00
        unfold World.cell? at h00
        split at h00
        · rename_i c _ _ hb
          constructor
          · by_cases h1 : a.spot.isSome = true
            · have : (a.add 0).spot = a.spot := rfl
              rw [this, if_pos h1] at h00; cases h00
            · simpa using h1
          · have : (a.add 0).block = a.block := rfl
            rw [this] at hb
            exact (Array.getElem?_eq_some_iff.1 hb).1
        · cases h00
      obtain ⟨blk, off, spot⟩ := a
      simp only at hsp
      obtain ⟨rfl, hlt⟩ := hsp
      have hll : ((List.range len).map f).length = len := by simp
      have hfl : (((List.range len).map f).map RR.cells).flatten.length = len * 6 := by
        rw [flatten_len (RR.cells_all _)]; simp; omega
      refine ⟨fun b => if b = 0 then some (.lies ⟨blk, off, len * 6, 6⟩) else none, [⟨(((List.range len).map f).map RR.cells).flatten, 6, false⟩], .slice (some ⟨0, 0, none⟩) len m, (List.range len).map f,
        ⟨fun b h => ?_, fun b h => ?_, fun b p h => ?_, fun b b' p p' B hne h h' => ?_⟩, fun b p B h hB => ?_, ?_, ?_⟩
      · by_cases h0 : b = 0
        · subst h0; simp
        · simp [h0] at h
      · by_cases h0 : b = 0 <;> simp [h0] at h
      · by_cases h0 : b = 0
        · subst h0
          simp only [if_true, Option.some.injEq, Spot.lies.injEq] at h
          subst h
          refine ⟨_, rfl, hlt, rfl, (show 0 < 6 by decide), by rw [hfl]; exact Nat.le_refl _, fun i v hv => ?_, (fun h => by cases h), (fun h => by cases h), (fun h => by cases h)⟩
          obtain ⟨j, hj, q, hq, rfl, hv2⟩ := flat_get hv
          rw [hll] at hj
          have := hcell j (by omega) q hq
          simp only [List.getElem_map, List.getElem_range] at hv2
          rw [hv2, add_plain] at this
          exact ⟨v, this, vr_cells _ _ _ hv2⟩
        · simp [h0] at h
      · by_cases h0 : b = 0
        · by_cases h1 : b' = 0
          · exact absurd (h0.trans h1.symm) hne
          · simp [h1] at h'
        · simp [h0] at h
      · by_cases h0 : b = 0
        · subst h0; cases hB; rfl
        · simp [h0] at h
      · have := VR.slice (ρ := fun b => if b = 0 then some (.lies ⟨blk, off, len * 6, 6⟩) else none) 0 0 len m ⟨blk, off, len * 6, 6⟩ m rfl hl (.inr rfl) (fun h => absurd h hc)
        simpa using this
      · refine .inr ⟨0, 0, m, by simp, .inr (by simpa using hl), by decide, RR.cells_all _, ⟨_, rfl, rfl, ?_, ?_⟩, RR.cells_ok _⟩
        · rw [hfl]; simp; omega
        · simp only [List.drop_zero, List.length_map, List.length_range]
          exact List.take_of_length_le (by rw [hfl]; omega)
end Go.Proofs.YthhmkaikopdmjaaGreat
