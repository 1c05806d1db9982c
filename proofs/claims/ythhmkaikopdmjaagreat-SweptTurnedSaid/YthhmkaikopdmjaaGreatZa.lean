/- SweptTurned answers true for every input, and leaves its arguments as they were. Conditions: none. -/
import Derived.Test.YthhmkaikopdmjaaGreatMg
import Derived.Test.YthhmkaikopdmjaaGreatRows
namespace Go.Proofs.YthhmkaikopdmjaaGreat.sweptTurned
open Go.ChangeShapes Go.WideShapes Go.ChangeAt Go.RowKit Go.Fw
set_option linter.unusedVariables false
theorem walk {w : World} {v : Value} {ρ : Inj} {T : Heap} {u : Value} {l : List RR} (hm : Mem ρ T w) (hs : Safe ρ T) (hu : VR ρ u v) (hl : RL T u l) (r1 : RR) (r2 : RR) (r3 : RR) :
    Calls Tryz.prog 9 #[v, r1.val, r2.val, r3.val] w fun e w' => e = .returned (.bool true) ∧ Below w.heap.size w w' := by
  have h := (sweptTurnedS T hl r1 r2 r3).2 ρ w #[v, r1.val, r2.val, r3.val] hm ⟨rfl, fun i h1 h2 => by
    have : i = 0 ∨ i = 1 ∨ i = 2 ∨ i = 3 := by simp at h1; omega
    rcases this with rfl | rfl | rfl | rfl
    · exact hu
    · exact vr_rot _ _
    · exact vr_rot _ _
    · exact vr_rot _ _⟩
  refine h.mono ?_
  rintro e w' ⟨V, ρ', rfl, hv, hs'⟩
  cases hv
  exact ⟨rfl, below_of hs hs'⟩
set_option maxRecDepth 100000 in
theorem lifted (os : Os) (started : os.Started) (H : Type) (enc : TypeId × Value → H) :
    ReturnsInHanded {} Tryz.checked os 9 .any (Rows.sweptTurnedSpec.pre6 enc Tryz.prog Tryz.f9 Rows.sweptTurnedRow.domain false) (Rows.sweptTurnedSpec.post enc Tryz.prog Tryz.f9 false true false false) := by
  refine returnsInHanded_of_change (C := Tryz.checked) own started (by kernel_rfl) Tryz.func9
    (ChangeSpec.witness6 (enc := enc) (C := Tryz.checked) false ⟨#[], #[.slice none 0 0, zeroR, zeroR, zeroR], []⟩ 8 (by kernel_rfl) (by kernel_rfl) (by kernel_rfl) (by kernel_rfl)) ?_
  intro W base args ds gs before hval0 hW hcnd _
  have hval : ∀ (j : Nat) t v, Tryz.f9.params[j]? = some t → args[j]? = some v → Value.okWide Tryz.prog W .any base t v := hval0
  have hW' := hW
  obtain ⟨p, q, hA0, hV, rfl, hfz, hnd⟩ := hW
  have hA : DataW.TrodAll enc Tryz.prog W 0 (fun _ => true) true Tryz.f9.params.toList args.toList ds p := hA0
  rw [Tryz.params9] at hA hval
  obtain ⟨v0, vs0, d0, ds0, p0, q0, hargs, rfl, rfl, h0, y0⟩ := trodAll_cons hA
  obtain ⟨v1, vs1, d1, ds1, p1, q1, rfl, rfl, rfl, h1, y1⟩ := trodAll_cons y0
  obtain ⟨v2, vs2, d2, ds2, p2, q2, rfl, rfl, rfl, h2, y2⟩ := trodAll_cons y1
  obtain ⟨v3, vs3, d3, ds3, p3, q3, rfl, rfl, rfl, h3, y3⟩ := trodAll_cons y2
  obtain ⟨rfl, rfl, rfl⟩ := trodAll_nil y3
  obtain rfl : args = #[v0, v1, v2, v3] := by cases args; simp_all
  obtain ⟨rfl, rfl⟩ := trodVars_none hV
  have lt0 : ∀ x ∈ p0, x.block < W.heap.size := by obtain ⟨m, hm⟩ := h0; exact DataW.trod_lt m _ _ _ hm
  have lt1 : ∀ x ∈ p1, x.block < W.heap.size := by obtain ⟨m, hm⟩ := h1; exact DataW.trod_lt m _ _ _ hm
  have lt2 : ∀ x ∈ p2, x.block < W.heap.size := by obtain ⟨m, hm⟩ := h2; exact DataW.trod_lt m _ _ _ hm
  have lt3 : ∀ x ∈ p3, x.block < W.heap.size := by obtain ⟨m, hm⟩ := h3; exact DataW.trod_lt m _ _ _ hm
  obtain ⟨ρ, T, u, l, hm, hs, hu, hl⟩ := arg_pts (hval 0 52 v0 rfl rfl) h0
  obtain ⟨r1, rfl⟩ := arg_rot (hval 1 26 v1 rfl rfl) h1
  obtain ⟨r2, rfl⟩ := arg_rot (hval 2 26 v2 rfl rfl) h2
  obtain ⟨r3, rfl⟩ := arg_rot (hval 3 26 v3 rfl rfl) h3
  clear hA0 hval0
  simp only [List.append_nil] at hW'
  refine (walk hm hs hu hl r1 r2 r3).mono fun e W' ⟨he, bel⟩ => ?_
  subst he
  exact ⟨_, rfl, _, _, _, [], _, [], hW', trodAll_mk1 (shut_bool Tryz.underlying4 _), (trodAll_cons_mk (Below.trod laid (by kernel_rfl) (of_decide_eq_true (by kernel_rfl)) h0 bel lt0) (trodAll_cons_mk (Below.trod laid (by kernel_rfl) (of_decide_eq_true (by kernel_rfl)) h1 bel lt1) (trodAll_cons_mk (Below.trod laid (by kernel_rfl) (of_decide_eq_true (by kernel_rfl)) h2 bel lt2) (trodAll_cons_mk (Below.trod laid (by kernel_rfl) (of_decide_eq_true (by kernel_rfl)) h3 bel lt3) trodAll_mk0)))), rfl, bel.frame _, fun h => by cases h⟩
theorem over : Rows.sweptTurnedRow.holds Tryz.pinned (OpenSpec.ofChange Rows.sweptTurnedSpec) :=
  OpenClaim.holds_of_wide 9 Tryz.f9 rfl rfl rfl rfl rfl rfl rfl ⟨rfl, rfl, rfl, rfl, rfl⟩ rfl rfl rfl rfl rfl (by kernel_rfl) Tryz.func9 (by kernel_rfl)
    (of_decide_eq_true (by kernel_rfl)) (by unfold Func.isWrapper; first | (rw [if_pos (by decide +kernel)]; kernel_rfl) | (rw [if_neg (by decide +kernel)]; exact ⟨rfl, rfl⟩))
    (fun os started H enc _ => lifted os started H enc)
theorem proved : Rows.SweptTurnedSaid := over
#print axioms proved
end Go.Proofs.YthhmkaikopdmjaaGreat.sweptTurned
