/- A region whose order is open, taken in the text's order: whatever order the machine takes fits; A region whose order is open, taken in the text's order: one place; all; Abstract code and the machine's: regions, code, functions; Abstract code and the machine's: code, functions; What a function leaves behind that nobody can see is dropped; Walking abstract code: equations; Comparisons of structs whose cells are scalars; the table of types; Walking by equations: one for each operation; Walking by equations: values, the heap, calls; Walking by equations: control, arithmetic; Slices over rows of scalars; Numbers in base 2^32 and in base 256; Rows of limbs in the heap; Rows of bytes; The plain law of long division; Integers and fractions as the program's values; The plain law of fractions; Fractions: order, floor, quotient; angles; Angles are in order; The simplest fraction between two; More for walking; Knuth's digit; Knuth's digit, plain; Two results that are loaded and stored in any order. Conditions: none. -/
import Derived.Test.YthhmkaikopdmjaaGreatMa
import Derived.IntWalk
import Derived.Laws.Strings
set_option linter.unusedSimpArgs false
set_option linter.unusedVariables false
namespace Go.Fw
open Go
def Lst (l : Array Bool) (i : Nat) : Prop := l.getD i false = true
theorem lst_set {l : Array Bool} {i : Nat} (h : i < l.size) (j : Nat) : Lst (l.setIfInBounds i true) j ↔ j = i ∨ Lst l j := by
  unfold Lst
  rw [Array.getD_eq_getD_getElem?, Array.getD_eq_getD_getElem?, Array.getElem?_setIfInBounds]
  by_cases e : i = j
  · subst e; simp [h]
  · rw [if_neg e]
    constructor
    · exact .inr
    · rintro (rfl | h')
      · exact absurd rfl e
      · exact h'
theorem ready_mem {ops : Array Oper} {l : Array Bool} {i : Nat} (hs : l.size = ops.size) (h : i ∈ Region.ready .any ops l) :
    ∃ o, ops[i]? = some o ∧ i < l.size ∧ ¬ Lst l i ∧ ∀ j ∈ preds o, Lst l j := by
  unfold Region.ready at h
  rw [List.mem_filter] at h
  obtain ⟨h1, h2⟩ := h
  simp at h1
  have ho := Array.getElem?_eq_getElem h1
  rw [ho] at h2
  simp only [Bool.and_eq_true, Option.map_some, Option.getD_some] at h2
  obtain ⟨h3, h4⟩ := h2
  refine ⟨_, ho, by omega, ?_, ?_⟩
  · unfold Lst
    have hi : i < l.size := by omega
    simp [Array.getD_eq_getD_getElem?, Array.getElem?_eq_getElem hi] at h3 ⊢
    exact h3
  · intro j hj
    unfold preds at hj
    simp only [List.mem_map, List.mem_filter] at hj
    obtain ⟨e, ⟨he, hb⟩, rfl⟩ := hj
    have := (Array.all_eq_true_iff_forall_mem.1 h4) e (by simpa using he)
    simp only [hb, Bool.not_true, Bool.false_or] at this
    exact this
theorem ready_none {q : Nat} {ops : Array Oper} {l : Array Bool} (hO : RegOk q ops) (hs : l.size = ops.size) (h : Region.ready .any ops l = []) : ∀ i, i < ops.size → Lst l i := by
  intro i
  induction i using Nat.strongRecOn with
  | _ i ih =>
    intro hi
    refine Classical.byContradiction fun hn => ?_
    have : i ∈ Region.ready .any ops l := by
      unfold Region.ready
      rw [List.mem_filter]
      have ho := Array.getElem?_eq_getElem hi
      refine ⟨by simpa using hi, ?_⟩
      rw [ho]
      simp only [Bool.and_eq_true, Option.map_some, Option.getD_some]
      constructor
      · unfold Lst at hn
        have hi' : i < l.size := by omega
        simp [Array.getD_eq_getD_getElem?, Array.getElem?_eq_getElem hi'] at hn ⊢
        exact hn
      · rw [Array.all_eq_true_iff_forall_mem]
        intro e he
        by_cases hb : Region.binds .any e = true
        · have hj : e.on ∈ preds ops[i] := by
            unfold preds
            simp only [List.mem_map, List.mem_filter]
            exact ⟨e, ⟨by simpa using he, hb⟩, rfl⟩
          have hlt := hO.back i _ ho _ hj
          have := ih e.on hlt (by omega)
          simp only [hb, Bool.not_true, Bool.false_or]; exact this
        · simp [hb]
    rw [h] at this; cases this
section
variable {P : Program} {tt : TT} {q : Nat} {S : ACall} {X : Inj → Heap → World → Prop} {r : Option Nat} {m n : Nat} {ds : List Deferred} {ops : Array Oper} {σ : Nat → Slots} {η : Nat → Heap} {β : Bas}
structure RM (q : Nat) (ops : Array Oper) (η : Nat → Heap) (β : Bas) (X : Inj → Heap → World → Prop) (A : Heap → Heap → Prop) (l : Array Bool) (ρ : Inj) (W : World) (k : Nat) : Prop where
  le : k ≤ ops.size
  below : ∀ i o, i < k → ops[i]? = some o → isMut q o = true → Lst l i
  above : ∀ i o, k ≤ i → ops[i]? = some o → isMut q o = true → ¬ Lst l i
  here : ∀ o, ops[k]? = some o → isMut q o = true
  step : β.To ρ (η k) W
  /-- since the last place that wrote -/
  inv : ∃ km ρm Wm, km ≤ k ∧ (km = 0 ∨ ∃ j o, ops[j]? = some o ∧ isMut q o = true ∧ j + 1 = km) ∧ X ρm (η km) Wm ∧ Step ρm (η km) Wm ρ (η k) W ∧ A (η km) (η k)
  new : ∀ b, (η 0).length ≤ b → ρ b ≠ none → ∃ i, Lst l i ∧ i < ops.size ∧ (η i).length ≤ b ∧ b < (η (i + 1)).length
structure RT (n : Nat) (ds : List Deferred) (ops : Array Oper) (σ : Nat → Slots) (l : Array Bool) (ρ : Inj) (a : Act) : Prop where
  sz : l.size = ops.size
  down : Down ops (Lst l)
  size : a.tmps.size = n
  defers : a.defers = ds
  unw : ∀ t, (∀ i o, Lst l i → ops[i]? = some o → o.dst ≠ some t) → VR ρ (σ 0 t) (a.tmps.getD t undef)
  wrt : ∀ t i o, Lst l i → ops[i]? = some o → o.dst = some t → VR ρ (σ ops.size t) (a.tmps.getD t undef)
theorem rs_reads (hO : RegOk q ops) (T : Trace tt S q ops σ η) {l : Array Bool} {ρ : Inj} {a : Act} (h : RT n ds ops σ l ρ a) {i : Nat} {o : Oper} (ho : ops[i]? = some o) (hn : ¬ Lst l i)
    (hp : ∀ j ∈ preds o, Lst l j) {t : Nat} (ht : t ∈ readsT ops o) : VR ρ (σ i t) (a.tmps.getD t undef) := by
  have hi := (Array.getElem?_eq_some_iff.1 ho).1
  by_cases hw : ∃ (w : Nat) (p : Oper), ops[w]? = some p ∧ p.dst = some t
  · obtain ⟨w, p, hp1, hp2⟩ := hw
    have hwl := (Array.getElem?_eq_some_iff.1 hp1).1
    have uniq : ∀ (k : Nat) (p' : Oper), ops[k]? = some p' → p'.dst = some t → k = w := fun k p' hk hd => Classical.byContradiction fun hne => hO.once k w p' p t hk hp1 hne hd hp2
    have early : (w < i → False) → ¬ Lst l w → VR ρ (σ i t) (a.tmps.getD t undef) := by
      intro hlt hnl
      have e := T.keep (t := t) (i := 0) i (by omega) (fun k p' _ hk hpk hd => hlt (by have := uniq k p' hpk hd; omega))
      rw [Nat.zero_add] at e; rw [e]
      exact h.unw t (fun k p' hk hpk hd => hnl (by rw [← uniq k p' hpk hd]; exact hk))
    by_cases e : w = i
    · subst e; exact early (fun h => absurd h (Nat.lt_irrefl _)) hn
    · rcases hO.read w i p o t hp1 ho e hp2 ht with hpre | hpre
      · have hlt := hpre.lt hO
        have hL : Lst l w := hpre.down h.down (.inr ⟨o, ho, hp⟩)
        have e1 := T.keep (t := t) (i := w + 1) (ops.size - (w + 1)) (by omega) (fun k p' h1 _ hpk hd => by have := uniq k p' hpk hd; omega)
        have e2 := T.keep (t := t) (i := w + 1) (i - (w + 1)) (by omega) (fun k p' h1 _ hpk hd => by have := uniq k p' hpk hd; omega)
        have k1 : w + 1 + (ops.size - (w + 1)) = ops.size := by omega
        have k2 : w + 1 + (i - (w + 1)) = i := by omega
        rw [k1] at e1; rw [k2] at e2
        rw [e2, ← e1]
        exact h.wrt t w p hL hp1 hp2
      · have hlt := hpre.lt hO
        exact early (by omega) (fun hL => hn (hpre.down h.down (.inl hL)))
  · have hno : ∀ (k : Nat) (p' : Oper), ops[k]? = some p' → p'.dst ≠ some t := fun k p' hk hd => hw ⟨k, p', hk, hd⟩
    have e := T.keep (t := t) (i := 0) i (by omega) (fun k p' _ _ hpk => hno k p' hpk)
    rw [Nat.zero_add] at e; rw [e]
    exact h.unw t (fun k p' _ hpk => hno k p' hpk)
theorem rs_put (hk : ops.toList.all (operOk n) = true) (hO : RegOk q ops) (T : Trace tt S q ops σ η) {l : Array Bool} {ρ ρ' : Inj} {a : Act} (h : RT n ds ops σ l ρ a) {i : Nat} {o : Oper} (ho : ops[i]? = some o)
    (hp : ∀ j ∈ preds o, Lst l j) (hle : ρ.Le ρ') {V : Value} (hv : ∀ d, o.dst = some d → VR ρ' (σ (i + 1) d) V) : RT n ds ops σ (l.setIfInBounds i true) ρ' (a.put o.dst V) := by
  have hi := (Array.getElem?_eq_some_iff.1 ho).1
  have hil : i < l.size := by rw [h.sz]; exact hi
  have hother : ∀ t, o.dst ≠ some t → (a.put o.dst V).tmps.getD t undef = a.tmps.getD t undef := by
    intro t ht
    cases hd : o.dst with
    | none => rfl
    | some d =>
      rw [hd] at ht
      have : d ≠ t := fun e => ht (by rw [e])
      simp [Act.put, Array.getD_eq_getD_getElem?, Array.getElem?_setIfInBounds, this]
  refine ⟨by simp [h.sz], ?_, ?_, ?_, ?_, ?_⟩
  · intro j p hpj hl k hkp
    rw [lst_set hil] at hl ⊢
    rcases hl with rfl | hl
    · rw [ho] at hpj; cases hpj; exact .inr (hp k hkp)
    · exact .inr (h.down j p hpj hl k hkp)
  · cases o.dst <;> simp [Act.put, h.size]
  · cases o.dst <;> simp [Act.put, h.defers]
  · intro t ht
    have hdt : o.dst ≠ some t := ht i o ((lst_set hil i).2 (.inl rfl)) ho
    rw [hother t hdt]
    exact (h.unw t (fun j p hl hpj => ht j p ((lst_set hil j).2 (.inr hl)) hpj)).mono hle
  · intro t j p hl hpj hd
    rw [lst_set hil] at hl
    rcases hl with rfl | hl
    · rw [ho] at hpj; cases hpj
      have hdl := operOk_dst (ops_ok hk ho) t hd
      have e := T.keep (t := t) (i := j + 1) (ops.size - (j + 1)) (by omega) (fun k p' h1 _ hpk hd' => hO.once k j p' o t hpk ho (by omega) hd' hd)
      have k1 : j + 1 + (ops.size - (j + 1)) = ops.size := by omega
      rw [k1] at e; rw [e]
      have : (a.put o.dst V).tmps.getD t undef = V := by
        rw [hd]
        simp [Act.put, Array.getD_eq_getD_getElem?, Array.getElem?_setIfInBounds, h.size, hdl]
      rw [this]; exact hv t hd
    · by_cases hji : j = i
      · subst hji
        rw [ho] at hpj; cases hpj
        have hdl := operOk_dst (ops_ok hk ho) t hd
        have e := T.keep (t := t) (i := j + 1) (ops.size - (j + 1)) (by omega) (fun k p' h1 _ hpk hd' => hO.once k j p' o t hpk ho (by omega) hd' hd)
        have k1 : j + 1 + (ops.size - (j + 1)) = ops.size := by omega
        rw [k1] at e; rw [e]
        have : (a.put o.dst V).tmps.getD t undef = V := by
          rw [hd]
          simp [Act.put, Array.getD_eq_getD_getElem?, Array.getElem?_setIfInBounds, h.size, hdl]
        rw [this]; exact hv t hd
      · rw [hother t (fun e => hO.once j i p o t hpj ho hji hd e)]
        exact (h.wrt t j p hl hpj hd).mono hle
theorem next_mut (T : Trace tt S q ops σ η) : ∀ (d k : Nat), k + d = ops.size → ∃ k', k ≤ k' ∧ k' ≤ ops.size ∧ (∀ i o, k ≤ i → i < k' → ops[i]? = some o → isMut q o = false) ∧ (∀ o, ops[k']? = some o → isMut q o = true) := by
  intro d
  induction d with
  | zero => intro k hk; exact ⟨k, Nat.le_refl _, by omega, fun i o h1 h2 => by omega, fun o ho => by have := (Array.getElem?_eq_some_iff.1 ho).1; omega⟩
  | succ d ih =>
    intro k hk
    have ho := Array.getElem?_eq_getElem (show k < ops.size by omega)
    cases hm : isMut q ops[k] with
    | true => exact ⟨k, Nat.le_refl _, by omega, fun i o h1 h2 => by omega, fun o ho' => by rw [ho] at ho'; cases ho'; exact hm⟩
    | false =>
      obtain ⟨k', h1, h2, h3, h4⟩ := ih (k + 1) (by omega)
      refine ⟨k', by omega, h2, fun i o g1 g2 ho' => ?_, h4⟩
      by_cases e : i = k
      · subst e; rw [ho] at ho'; cases ho'; exact hm
      · exact h3 i o (by omega) g2 ho'
theorem adm_quiet {A : Heap → Heap → Prop} (hrf : ∀ H, A H H) (hAd : AdmR tt S ops A) {i : Nat} {o : Oper} {s s' : Slots} {H H' : Heap} (ho : ops[i]? = some o) (hm : isMut q o = false) (h : AOp tt S q ops o s H s' H') : A H H' := by
  unfold AOp at h
  split at h
  · refine hAd i o s H H' ho ?_
    unfold AStep at h
    unfold ANon
    split at h
    · rename_i f args tys hop
      rcases h with ⟨g, first, cap, v, hf, hSg, _, _⟩ | ⟨hq, _⟩
      · first | (rw [hop]; exact ⟨g, first, cap, v, hf, hSg⟩) | exact ⟨g, first, cap, v, hf, hSg⟩
      · unfold isMut at hm
        rw [hop] at hm
        simp [clsOf, hq] at hm
    · rename_i hne
      obtain ⟨v, ha, _⟩ := h
      first
      | exact ⟨v, ha⟩
      | (split
         · rename_i f args tys hop
           exact absurd hop (hne f args tys)
         · exact ⟨v, ha⟩)
  · rw [h.2]; exact hrf _
theorem adm_steps {A : Heap → Heap → Prop} (hrf : ∀ H, A H H) (htr : ∀ {H1 H2 H3}, A H1 H2 → A H2 H3 → A H1 H3) (hAd : AdmR tt S ops A) (T : Trace tt S q ops σ η) (i : Nat) : ∀ n, i + n ≤ ops.size → (∀ k o, i ≤ k → k < i + n → ops[k]? = some o → isMut q o = false) → A (η i) (η (i + n)) := by
  intro n
  induction n with
  | zero => intro _ _; exact hrf _
  | succ n ih =>
    intro hn h
    have ho := Array.getElem?_eq_getElem (show i + n < ops.size by omega)
    exact htr (ih (by omega) (fun k o h1 h2 => h k o h1 (by omega))) (adm_quiet hrf hAd ho (h (i + n) _ (by omega) (by omega) ho) (T.step (i + n) _ ho))
theorem advance {A : Heap → Heap → Prop} (hS : SndB P r S X A β) (hAd : AdmR tt S ops A) (T : Trace tt S q ops σ η) {l l' : Array Bool} {ρ ρ' : Inj} {W W' : World} {i : Nat} {o : Oper} (ho : ops[i]? = some o) (hm : isMut q o = true) (h : RM q ops η β X A l ρ W i)
    (hl : ∀ j, Lst l' j ↔ j = i ∨ Lst l j) (hs : β.To ρ' (η (i + 1)) W') (hx : X ρ' (η (i + 1)) W') (hnew : ∀ b, ρ' b ≠ none → ρ b ≠ none ∨ (η i).length ≤ b ∧ b < (η (i + 1)).length) : ∃ k, RM q ops η β X A l' ρ' W' k := by
  have hi := (Array.getElem?_eq_some_iff.1 ho).1
  obtain ⟨k', h1, h2, h3, h4⟩ := next_mut T (ops.size - (i + 1)) (i + 1) (by omega)
  obtain ⟨G, hG⟩ := grow_steps T (i + 1) (k' - (i + 1)) (by omega) (fun k o g1 g2 g3 => h3 k o g1 (by omega) g3)
  have e : i + 1 + (k' - (i + 1)) = k' := by omega
  rw [e] at hG
  refine ⟨k', h2, ?_, ?_, h4, ?_, ?_, ?_⟩
  · intro j p hj hp hmj
    rw [hl]
    by_cases e : j = i
    · exact .inl e
    · by_cases hlt : j < i
      · exact .inr (h.below j p hlt hp hmj)
      · have := h3 j p (by omega) hj hp
        rw [hmj] at this; cases this
  · intro j p hj hp hmj
    rw [hl]
    rintro (rfl | hL)
    · omega
    · exact h.above j p (by omega) hp hmj hL
  · rw [hG]; exact hs.trans (Step.grow hs.mem G)
  · have ha := adm_steps hS.rf hS.tr hAd T (i + 1) (k' - (i + 1)) (by omega) (fun k o g1 g2 g3 => h3 k o g1 (by omega) g3)
    rw [e] at ha
    refine ⟨i + 1, ρ', W', h1, .inr ⟨i, o, ho, hm, rfl⟩, hx, ?_, ha⟩
    rw [hG]; exact Step.grow hs.mem G
  · intro b hb hne
    rcases hnew b hne with hold | ⟨g1, g2⟩
    · obtain ⟨j, k1, k2, k3⟩ := h.new b hb hold
      exact ⟨j, (hl j).2 (.inr k1), k2, k3⟩
    · exact ⟨i, (hl i).2 (.inl rfl), hi, g1, g2⟩
end
end Go.Fw
namespace Go.Fw
open Go
def Inj.cutTo (ρ ρr : Inj) : Inj := fun b => match ρr b with | none => none | some _ => ρ b
def Inj.over (ρ' ρ : Inj) : Inj := fun b => match ρ' b with | none => ρ b | some x => some x
theorem cutTo_some {ρ ρr : Inj} {b : Nat} {s : Spot} (h : ρ.cutTo ρr b = some s) : ρ b = some s ∧ ρr b ≠ none := by
  unfold Inj.cutTo at h
  cases hr : ρr b <;> rw [hr] at h
  · cases h
  · exact ⟨h, by simp⟩
theorem cutTo_eq {ρ ρr : Inj} {b : Nat} (h : ρr b ≠ none) : ρ.cutTo ρr b = ρ b := by
  unfold Inj.cutTo
  cases hr : ρr b
  · exact absurd hr h
  · rfl
theorem over_some {ρ' ρ : Inj} {b : Nat} {s : Spot} (h : ρ' b = some s) : ρ'.over ρ b = some s := by simp [Inj.over, h]
theorem over_none {ρ' ρ : Inj} {b : Nat} (h : ρ' b = none) : ρ'.over ρ b = ρ b := by simp [Inj.over, h]
theorem VR.cutTo {ρ ρr : Inj} {v V V0 : Value} (h0 : VR ρr v V0) (h : VR ρ v V) : VR (ρ.cutTo ρr) v V :=
  VR.cut h0 (fun b hb => cutTo_eq hb) h
theorem Mem.cutTo {ρ ρr : Inj} {H G : Heap} {W Wr : World} (h : Mem ρ (H ++ G) W) (hr : Mem ρr H Wr) : Mem (ρ.cutTo ρr) H W := by
  have hlt : ∀ {b s}, ρ.cutTo ρr b = some s → b < H.length := fun hb => hr.dom _ (cutTo_some hb).2
  refine ⟨fun b hb => ?_, fun b hb => ?_, fun b p hb => ?_, fun b b' p p' B hne hb hb' hB ho => ?_⟩
  · cases e : ρ.cutTo ρr b with
    | none => exact absurd e hb
    | some s => exact hlt e
  · have := h.gone b (cutTo_some hb).1
    rwa [List.getElem?_append_left (hlt hb)] at this
  · obtain ⟨B, hB, l⟩ := h.lies b p (cutTo_some hb).1
    rw [List.getElem?_append_left (hlt hb)] at hB
    refine ⟨B, hB, ⟨l.old, l.esz, l.pos, l.len, fun i v hv => ?_, l.mine, l.spare, l.hot⟩⟩
    obtain ⟨V, h1, h2⟩ := l.cell i v hv
    refine ⟨V, h1, ?_⟩
    cases hs : ρr b with
    | none => exact absurd hs (cutTo_some hb).2
    | some s =>
      cases s with
      | dead =>
        have := hr.gone b hs
        rw [hB] at this; cases this
        exact absurd l.pos (by simp [deadBlk])
      | lies pr =>
        obtain ⟨B', hB', l'⟩ := hr.lies b pr hs
        rw [hB] at hB'; cases hB'
        obtain ⟨V0, _, h3⟩ := l'.cell i v hv
        exact VR.cutTo h3 h2
  · exact h.apart b b' p p' B hne (cutTo_some hb).1 (cutTo_some hb').1 (by rw [List.getElem?_append_left (hlt hb)]; exact hB) ho
theorem merge_step {ρ0 ρ ρr ρ' : Inj} {H0 H H1 T G G1 : Heap} {W0 W W' Wr : World} (h0 : Step ρ0 H0 W0 ρ T W) (hT : T = H ++ G) (hT1 : T = H1 ++ G1) (hr : Mem ρr H Wr)
    (hs : Step (ρ.cutTo ρr) H W ρ' H1 W') (hfree : ∀ b, H.length ≤ b → b < H1.length → ρ b = none) (hH0 : H0.length ≤ H.length) :
    Step ρ0 H0 W0 (ρ'.over ρ) T W' ∧ ρ.Le (ρ'.over ρ) ∧ ρ'.Le (ρ'.over ρ) ∧ ∀ b, (ρ'.over ρ) b ≠ none → ρ b ≠ none ∨ H.length ≤ b ∧ b < H1.length := by
  have hM := h0.mem
  have hle' : ρ'.Le (ρ'.over ρ) := fun b s hb => .inl (over_some hb)
  have hnew : ∀ b s, ρ' b = some s → ρ.cutTo ρr b = none → H.length ≤ b ∧ b < H1.length := by
    intro b s hb hn
    have hd := hs.mem.dom b (by simp [hb])
    refine ⟨Classical.byContradiction fun hlt => ?_, hd⟩
    have := hs.fresh b (by omega) hn
    rw [hb] at this; cases this
  have hle : ρ.Le (ρ'.over ρ) := by
    intro b s hb
    cases e : ρ' b with
    | none => exact .inl (by rw [over_none e]; exact hb)
    | some s' =>
      cases ec : ρ.cutTo ρr b with
      | none =>
        obtain ⟨g1, g2⟩ := hnew b s' e ec
        rw [hfree b g1 g2] at hb; cases hb
      | some s2 =>
        have e1 := (cutTo_some ec).1
        rw [hb] at e1; cases e1
        rcases hs.le b s ec with h | h
        · exact .inl (over_some h)
        · exact .inr (over_some h)
  have hT1get : ∀ b, b < H1.length → T[b]? = H1[b]? := fun b hb => by rw [hT1, List.getElem?_append_left hb]
  have hTget : ∀ b, b < H.length → T[b]? = H[b]? := fun b hb => by rw [hT, List.getElem?_append_left hb]
  have hcd : ∀ {b s}, ρ.cutTo ρr b = some s → b < H.length := fun hb => hr.dom _ (cutTo_some hb).2
  have untouched : ∀ b p, ρ' b = none → ρ b = some (.lies p) → ¬ Owned (ρ.cutTo ρr) H p.blk := by
    rintro b p hn hb ⟨b0, p0, B0, g1, g2, g3, g4⟩
    have e1 := (cutTo_some g1).1
    have hne : b0 ≠ b := by
      rintro rfl
      rcases hs.le b0 _ g1 with h | h <;> rw [hn] at h <;> cases h
    exact hM.apart b0 b p0 p B0 hne e1 hb (by rw [hTget b0 (hcd g1)]; exact g2) g3 g4
  have hmem : Mem (ρ'.over ρ) T W' := by
    refine ⟨fun b hb => ?_, fun b hb => ?_, fun b p hb => ?_, fun b b' p p' B hne hb hb' hB ho => ?_⟩
    · cases e : ρ' b with
      | none => rw [over_none e] at hb; exact hM.dom b hb
      | some s => have := hs.mem.dom b (by simp [e]); rw [hT1]; simp; omega
    · cases e : ρ' b with
      | none => rw [over_none e] at hb; exact hM.gone b hb
      | some s =>
        rw [over_some e] at hb; cases hb
        rw [hT1get b (hs.mem.dom b (by simp [e]))]; exact hs.mem.gone b e
    · cases e : ρ' b with
      | none =>
        rw [over_none e] at hb
        obtain ⟨B, hB, l⟩ := hM.lies b p hb
        have hblk := hs.frame.block p.blk l.old (untouched b p e hb)
        have hc : ∀ i, W'.cell? ⟨p.blk, p.off + i, none⟩ = W.cell? ⟨p.blk, p.off + i, none⟩ := fun i => by simp only [World.cell?, hblk]
        have hf : ∀ i, W'.frozen? ⟨p.blk, p.off + i, none⟩ = W.frozen? ⟨p.blk, p.off + i, none⟩ := fun i => by simp only [World.frozen?, hblk]
        have hf2 : ∀ i, W'.frozen? ⟨p.blk, i, none⟩ = W.frozen? ⟨p.blk, i, none⟩ := fun i => by simp only [World.frozen?, hblk]
        exact ⟨B, hB, ⟨Nat.lt_of_lt_of_le l.old hs.frame.size, l.esz, l.pos, l.len, fun i v hv => by obtain ⟨V, k1, k2⟩ := l.cell i v hv; exact ⟨V, by rw [hc]; exact k1, k2.mono hle⟩, fun ho i hi => by rw [hc, hf]; exact l.mine ho i hi, fun ho i V h1 h2 h3 => l.spare ho i V h1 h2 (by rw [← hc]; exact h3), fun ho i => by rw [hf2]; exact l.hot ho i⟩⟩
      | some s =>
        rw [over_some e] at hb; cases hb
        obtain ⟨B, hB, l⟩ := hs.mem.lies b p e
        exact ⟨B, by rw [hT1get b (hs.mem.dom b (by simp [e]))]; exact hB, ⟨l.old, l.esz, l.pos, l.len, fun i v hv => by obtain ⟨V, k1, k2⟩ := l.cell i v hv; exact ⟨V, k1, k2.mono hle'⟩, l.mine, l.spare, l.hot⟩⟩
    · -- the place of a block that the step speaks of, against one that it does not speak of
      have mix : ∀ b1 b2 p1 p2 B1, ρ' b1 = some (.lies p1) → ρ' b2 = none → ρ b2 = some (.lies p2) → H1[b1]? = some B1 → (B1.own = true ∨ ∃ B2, T[b2]? = some B2 ∧ B2.own = true) → p1.blk ≠ p2.blk := by
        intro b1 b2 p1 p2 B1 g1 g2 g3 g4 g5 heq
        obtain ⟨B2, hB2, l2⟩ := hM.lies b2 p2 g3
        obtain ⟨b0, p0, B0, k1, k2, k3, k4⟩ := hs.placed b1 p1 B1 g1 g4 (by rw [heq]; exact l2.old)
        have e1 := (cutTo_some k1).1
        have hne0 : b0 ≠ b2 := by
          rintro rfl
          rcases hs.le b0 _ k1 with h | h <;> rw [g2] at h <;> cases h
        rcases g5 with g5 | ⟨B2', g6, g7⟩
        · exact hM.apart b0 b2 p0 p2 B0 hne0 e1 g3 (by rw [hTget b0 (hcd k1)]; exact k2) (k4 g5) (by omega)
        · exact hM.apart b2 b0 p2 p0 B2' (Ne.symm hne0) g3 e1 g6 g7 (by omega)
      cases e : ρ' b with
      | none =>
        rw [over_none e] at hb
        cases e' : ρ' b' with
        | none => rw [over_none e'] at hb'; exact hM.apart b b' p p' B hne hb hb' hB ho
        | some s' =>
          rw [over_some e'] at hb'; cases hb'
          obtain ⟨B', hB', _⟩ := hs.mem.lies b' p' e'
          exact fun h => mix b' b p' p B' e' e hb hB' (.inr ⟨B, hB, ho⟩) h.symm
      | some s =>
        rw [over_some e] at hb; cases hb
        rw [hT1get b (hs.mem.dom b (by simp [e]))] at hB
        cases e' : ρ' b' with
        | none => rw [over_none e'] at hb'; exact mix b b' p p' B e e' hb' hB (.inl ho)
        | some s' =>
          rw [over_some e'] at hb'; cases hb'
          exact hs.mem.apart b b' p p' B hne e e' hB ho
  refine ⟨⟨hmem, h0.len, h0.le.trans hle, ?_, ?_, ?_⟩, hle, hle', ?_⟩
  · intro b hb hn
    have h1 := h0.fresh b hb hn
    have h2 : ρ.cutTo ρr b = none := by
      cases e : ρ.cutTo ρr b with
      | none => rfl
      | some s => have := (cutTo_some e).1; rw [h1] at this; cases this
    have h3 := hs.fresh b (by omega) h2
    rw [over_none h3]; exact h1
  · intro b p B' hb hB' hk
    cases e : ρ' b with
    | none => rw [over_none e] at hb; exact h0.placed b p B' hb hB' hk
    | some s =>
      rw [over_some e] at hb; cases hb
      rw [hT1get b (hs.mem.dom b (by simp [e]))] at hB'
      obtain ⟨b1, p1, B1, k1, k2, k3, k4⟩ := hs.placed b p B' e hB' (Nat.lt_of_lt_of_le hk h0.frame.size)
      obtain ⟨b0, p0, B0, m1, m2, m3, m4⟩ := h0.placed b1 p1 B1 (cutTo_some k1).1 (by rw [hTget b1 (hcd k1)]; exact k2) (by omega)
      exact ⟨b0, p0, B0, m1, m2, by omega, fun h => m4 (k4 h)⟩
  · refine ⟨hs.frame.os.trans h0.frame.os, hs.frame.tape.trans h0.frame.tape, hs.frame.output.trans h0.frame.output, Nat.le_trans h0.frame.size hs.frame.size, fun k hk hn => ?_⟩
    refine (hs.frame.block k (Nat.lt_of_lt_of_le hk h0.frame.size) ?_).trans (h0.frame.block k hk hn)
    rintro ⟨b0, p0, B0, g1, g2, g3, g4⟩
    exact hn (h0.owned k hk ⟨b0, p0, B0, (cutTo_some g1).1, by rw [hTget b0 (hcd g1)]; exact g2, g3, g4⟩)
  · intro b hb
    cases e : ρ' b with
    | none => rw [over_none e] at hb; exact .inl hb
    | some s =>
      cases ec : ρ.cutTo ρr b with
      | none => exact .inr (hnew b s e ec)
      | some s2 => exact .inl (by rw [(cutTo_some ec).1]; simp)
end Go.Fw
namespace Go.Fw
open Go
section
variable {P : Program} {tt : TT} {q : Nat} {S : ACall} {X : Inj → Heap → World → Prop} {A : Heap → Heap → Prop} {r : Option Nat} {m n : Nat} {ds : List Deferred} {ops : Array Oper} {σ : Nat → Slots} {η : Nat → Heap} {β : Bas} {ρ0 : Inj} {W0 : World}
theorem clsOf_call {op : Op} (h : clsOf op = .call) : ∃ f args tys, op = .call { callee := .value f, args := args, argTypes := tys } := by
  cases op <;> first | (cases (show Cls.mut = Cls.call from h); done) | (cases (show Cls.quiet = Cls.call from h); done) | (cases (show Cls.pure = Cls.call from h); done) | skip
  rename_i c
  obtain ⟨callee, args, tys⟩ := c
  cases callee with
  | value f => exact ⟨f, args, tys, rfl⟩
  | invoke r m => cases (show Cls.mut = Cls.call from h)
  | builtin b => cases b <;> first | (cases (show Cls.mut = Cls.call from h); done) | (cases (show Cls.pure = Cls.call from h); done)
theorem AStep_plain {S : ACall} {o : Oper} {s s' : Slots} {H H' : Heap} (hc : clsOf o.op ≠ .call) : AStep tt S q o s H s' H' ↔ ∃ v, aop tt o.op (ev s) H = some (v, H') ∧ s' = s.put o.dst v := by
  unfold AStep
  split
  · rename_i f args tys hop
    exact absurd (by rw [hop]; rfl) hc
  · exact Iff.rfl
theorem wanted_eq {s : Slots} {a : Act} {o : Oper} (h : ∀ t ∈ readsT ops o, ∃ ρ, VR ρ (s t) (a.tmps.getD t undef)) : Region.wanted o (yielded ops a.tmps) = wantedA ops s o := by
  unfold wantedA Region.wanted
  cases hg : o.guard with
  | none => rfl
  | some g =>
    obtain ⟨g, w⟩ := g
    simp only
    congr 1
    unfold yielded yieldA
    cases hd : (ops[g]?).bind (·.dst) with
    | none => simp
    | some d =>
      obtain ⟨ρ, hv⟩ := h d (by unfold readsT; rw [hg]; simp [hd])
      simp only [Option.bind_some]
      cases hx : a.tmps[d]? with
      | none =>
        simp [Array.getD_eq_getD_getElem?, hx] at hv
        cases hs : s d <;> rw [hs] at hv <;> cases hv <;> rfl
      | some V =>
        simp [Array.getD_eq_getD_getElem?, hx] at hv
        cases hs : s d <;> rw [hs] at hv <;> cases hv <;> rfl
theorem operand_reads {o : Oper} {t : Nat} (h : Operand.tmp t ∈ o.op.operands) : t ∈ readsT ops o := by
  unfold readsT
  refine List.mem_append.2 (.inl (List.mem_filterMap.2 ⟨.tmp t, by simpa using h, rfl⟩))
theorem ev_of_reads {ρ : Inj} {s : Slots} {a : Act} {o : Oper} (hk : operOk n o = true) (h : ∀ t ∈ readsT ops o, VR ρ (s t) (a.tmps.getD t undef)) : ∀ x ∈ o.op.operands, VR ρ (ev s x) (a.eval x) := by
  intro x hx
  cases x with
  | tmp t => exact h t (operand_reads hx)
  | const v => exact VR.plain (operOk_const hk _ hx)
  | func f => exact .func f _ _ _ _ rfl rfl (fun i h _ => by simp at h) (fun i h _ => by simp at h)
  | global g => exact .glob g
theorem put_at {s : Slots} {o : Oper} {v : Value} {d : Nat} (h : o.dst = some d) : (s.put o.dst v) d = v := by rw [h]; simp [Slots.put]
theorem rd_grow {H : Heap} {b i n : Nat} {x : List Value} (h : rd H b i n = some x) (G : Heap) : rd (H ++ G) b i n = some x := by
  unfold rd at h ⊢
  cases hb : H[b]? with
  | none => rw [hb] at h; cases h
  | some B =>
    rw [hb] at h
    rw [List.getElem?_append_left (List.getElem?_eq_some_iff.1 hb).1, hb]
    exact h
theorem rd_lt {H : Heap} {b i n : Nat} {x : List Value} (h : rd H b i n = some x) : b < H.length := by
  unfold rd at h
  cases hb : H[b]? with
  | none => rw [hb] at h; cases h
  | some B => exact (List.getElem?_eq_some_iff.1 hb).1
theorem rd_wr {H H' : Heap} {c j b i n : Nat} {vs : List Value} (h : wr H c j vs = some H') (hne : c ≠ b) : rd H' b i n = rd H b i n := by
  unfold wr at h
  split at h
  · split at h
    · cases h
      unfold rd
      rw [List.getElem?_set_ne hne]
    · cases h
  · cases h
theorem aLoad_same {H H' : Heap} (hs : ∀ b i n x, rd H b i n = some x → rd H' b i n = some x) {t : TypeId} {a v : Value} (h : aLoad tt H t a = some v) : aLoad tt H' t a = some v := by
  unfold aLoad at h ⊢
  split at h
  · split at h
    · rename_i hag
      rw [if_pos hag]
      rw [Option.map_eq_some_iff] at h ⊢
      obtain ⟨y, h1, h2⟩ := h
      exact ⟨y, hs _ _ _ _ h1, h2⟩
    · rename_i hag
      rw [if_neg hag]
      split at h
      · rename_i v' hv
        rw [hs _ _ _ _ hv]
        exact h
      · cases h
  · cases h
theorem loose_step {ops : Array Oper} {σ : Nat → Slots} {η : Nat → Heap} (hO : RegOk q ops) (T : Trace tt S q ops σ η) {m i : Nat} {p o : Oper} (hp : ops[m]? = some p) (hL : Loose ops m i p o) {b off k : Nat} {x : List Value} (hlen : ∀ a, i ≤ a → a ≤ ops.size → (η i).length ≤ (η a).length) (hb : b < (η i).length)
    (h : rd (η m) b off k = some x) : rd (η (m + 1)) b off k = some x := by
  obtain ⟨lt, lx, st, y, w, a, r, t, _, hst, hia, ham, hra, hg, hd, hal⟩ := hL
  have hms := (Array.getElem?_eq_some_iff.1 hp).1
  have hstep := T.step m p hp
  have hsa := T.step a r hra
  unfold AOp at hsa
  rw [if_pos (by unfold wantedA Region.wanted; rw [hg])] at hsa
  obtain ⟨v, hv, hsv⟩ := (AStep_plain (by rw [hal]; simp [clsOf])).1 hsa
  rw [hal] at hv
  simp only [aop] at hv
  split at hv
  case h_2 => cases hv
  rename_i TT hTT
  injection hv with hv
  injection hv with hv1 hv2
  have hy : σ (a + 1) y = newPtr (η a) := by rw [hsv, put_at hd, hv1]
  have hk := T.keep (t := y) (i := a + 1) (m - (a + 1)) (by omega) (fun k p' h1 h2 hpk hd' => hO.once a k r p' y hra hpk (by omega) hd hd')
  rw [show a + 1 + (m - (a + 1)) = m by omega, hy] at hk
  unfold AOp at hstep
  split at hstep
  · obtain ⟨v', hv', _⟩ := (AStep_plain (by rw [hst]; simp [clsOf])).1 hstep
    rw [hst] at hv'
    have hex : ev (σ m) (.tmp y) = .pointer (some ⟨(η a).length, 0, none⟩) := hk
    simp only [aop, hex] at hv'
    rw [Option.map_eq_some_iff] at hv'
    obtain ⟨H', h1, h2⟩ := hv'
    injection h2 with _ h2
    subst h2
    generalize ev (σ m) w = vv at h1
    unfold aStore at h1
    cases htt : tt st with
    | none => rw [htt] at h1; cases h1
    | some T2 =>
      rw [htt] at h1
      simp only at h1
      split at h1
      · rw [rd_wr h1 (by have := hlen a (by omega) (by omega); omega)]; exact h
      · cases h1
  · rw [hstep.2]; exact h
theorem rs_op (hS : SndB P r S X A β) (hX : X ρ0 (η 0) W0) (hB : β.To ρ0 (η 0) W0) (hT : TOK P tt) (hk : ops.toList.all (operOk n) = true) (hO : RegOk q ops) (T : Trace tt S q ops σ η) (hAd : AdmR tt S ops A) (hr : Real (σ 0) (η 0) ρ0 W0) {l : Array Bool} {ρ : Inj} {a : Act} {W : World} {k : Nat}
    (h : RT n ds ops σ l ρ a) (hm : RM q ops η β X A l ρ W k) {i : Nat} (hi : i ∈ Region.ready .any ops l) {next : Act → World → Prop} {Q : Exit → Act → World → Prop}
    (hn : ∀ ρ' a' W' k', RT n ds ops σ (l.setIfInBounds i true) ρ' a' → RM q ops η β X A (l.setIfInBounds i true) ρ' W' k' → next a' W') :
    wpOpIn (FW r) m P ops Q i next a W := by
  obtain ⟨o, ho, hil, hnl, hp⟩ := ready_mem h.sz hi
  have hiN := (Array.getElem?_eq_some_iff.1 ho).1
  have hko := ops_ok hk ho
  have hstep := T.step i o ho
  have hreads : ∀ t ∈ readsT ops o, VR ρ (σ i t) (a.tmps.getD t undef) := fun t ht => rs_reads hO T h ho hnl hp ht
  have hE := ev_of_reads hko hreads
  have hls := fun j => lst_set hil (i := i) j
  have hmk : isMut q o = true → i = k := by
    intro hmi
    have hki : k ≤ i := Classical.byContradiction fun hlt => hnl (hm.below i o (by omega) ho hmi)
    refine Classical.byContradiction fun hne => ?_
    have hkl : k < ops.size := by omega
    have hok := Array.getElem?_eq_getElem hkl
    have hmem : isMem o = true := by
      unfold isMut at hmi; unfold isMem
      cases hc : clsOf o.op <;> rw [hc] at hmi <;> first | rfl | cases hmi
    rcases hO.muts k i _ o hok ho (fun e => hne e.symm) (hm.here _ hok) hmem with (hpre | hpre) | hL
    · exact hm.above k _ (Nat.le_refl _) hok (hm.here _ hok) (hpre.down h.down (.inr ⟨o, ho, hp⟩))
    · have := hpre.lt hO; omega
    · obtain ⟨lt, lx, _, _, _, _, _, _, e, _⟩ := hL
      unfold isMut at hmi; rw [e] at hmi; cases hmi
  have hsame : isMut q o = false → ∀ {ρ' : Inj} {W' : World}, β.To ρ' (η k) W' → (∀ km ρm Wm, X ρm (η km) Wm → Step ρm (η km) Wm ρ (η k) W → km ≤ k → (km = 0 ∨ ∃ j o, ops[j]? = some o ∧ isMut q o = true ∧ j + 1 = km) → Step ρm (η km) Wm ρ' (η k) W') → (∀ b, ρ' b ≠ none → ρ b ≠ none ∨ (η i).length ≤ b ∧ b < (η (i + 1)).length) → RM q ops η β X A (l.setIfInBounds i true) ρ' W' k := by
    intro hmi ρ' W' hs hx hnew
    refine ⟨hm.le, fun j p hj hpj hmj => (hls j).2 (.inr (hm.below j p hj hpj hmj)), fun j p hj hpj hmj hL => ?_, hm.here, hs, (let ⟨km, ρm, Wm, x1, x2, x3, x4, x5⟩ := hm.inv; ⟨km, ρm, Wm, x1, x2, x3, hx km ρm Wm x3 x4 x1 x2, x5⟩), fun b hb hne => ?_⟩
    · rcases (hls j).1 hL with rfl | hL
      · rw [ho] at hpj; cases hpj; rw [hmi] at hmj; cases hmj
      · exact hm.above j p hj hpj hmj hL
    · rcases hnew b hne with hold | ⟨g1, g2⟩
      · obtain ⟨j, k1, k2, k3⟩ := hm.new b hb hold
        exact ⟨j, (hls j).2 (.inr k1), k2, k3⟩
      · exact ⟨i, (hls i).2 (.inl rfl), hiN, g1, g2⟩
  have hxk : X ρ (η k) W := by
    obtain ⟨km, ρm, Wm, x1, x2, x3, x4, x5⟩ := hm.inv
    exact hS.st x3 x5 x4
  unfold wpOpIn
  rw [ho]
  simp only
  rw [wanted_eq (fun t ht => ⟨ρ, hreads t ht⟩)]
  unfold AOp at hstep
  split at hstep
  · rename_i hw
    rw [if_pos hw]
    cases hc : clsOf o.op with
    | pure =>
      have hmi : isMut q o = false := by unfold isMut; rw [hc]
      obtain ⟨v, ha, hs'⟩ := (AStep_plain (by rw [hc]; simp)).1 hstep
      have hpa := pure_aop hc ha
      have hA : AStep tt S q o (σ i) (η k) (σ (i + 1)) (η k) := (AStep_plain (by rw [hc]; simp)).2 ⟨v, hpa.2 _, hs'⟩
      refine step_sound hS (fun _ _ => ⟨hxk, hm.step⟩) hT hA hko hm.step.mem h.size hE ?_ (fun _ hcl => by rw [hc] at hcl; cases hcl)
      intro v' V ρ' W' e hv hs _
      refine hn ρ' _ W' k (rs_put hk hO T h ho hp hs.le (fun d hd => by rw [e, put_at hd]; exact hv)) (hsame hmi (hm.step.trans hs) (fun km ρm Wm _ x4 _ _ => x4.trans hs) (fun b hb => ?_))
      refine .inl (fun hnone => ?_)
      have hlt := hs.mem.dom b hb
      exact hb (hs.fresh b hlt hnone)
    | «mut» =>
      have hmi : isMut q o = true := by unfold isMut; rw [hc]
      have hik := hmk hmi; subst hik
      refine step_sound hS (fun _ _ => ⟨hxk, hm.step⟩) hT hstep hko hm.step.mem h.size hE ?_ (fun _ hcl => by rw [hc] at hcl; cases hcl)
      intro v' V ρ' W' e hv hs hN
      obtain ⟨k', hm'⟩ := advance hS hAd T ho hmi hm hls (hm.step.trans hs) (hS.st hxk (hAd i o _ _ _ ho hN) hs) (fun b hb => by
        by_cases hold : ρ b = none
        · refine .inr ⟨Classical.byContradiction fun hlt => hb (hs.fresh b (by omega) hold), hs.mem.dom b hb⟩
        · exact .inl hold)
      exact hn ρ' _ W' k' (rs_put hk hO T h ho hp hs.le (fun d hd => by rw [e, put_at hd]; exact hv)) hm'
    | quiet | call =>
      cases hmi : isMut q o with
      | true =>
        have hik := hmk hmi; subst hik
        refine step_sound hS (fun _ _ => ⟨hxk, hm.step⟩) hT hstep hko hm.step.mem h.size hE ?_ ?_
        · intro v' V ρ' W' e hv hs hN
          obtain ⟨k', hm'⟩ := advance hS hAd T ho hmi hm hls (hm.step.trans hs) (hS.st hxk (hAd i o _ _ _ ho hN) hs) (fun b hb => by
            by_cases hold : ρ b = none
            · refine .inr ⟨Classical.byContradiction fun hlt => hb (hs.fresh b (by omega) hold), hs.mem.dom b hb⟩
            · exact .inl hold)
          exact hn ρ' _ W' k' (rs_put hk hO T h ho hp hs.le (fun d hd => by rw [e, put_at hd]; exact hv)) hm'
        · intro _ _ v' V ρ' W' e hv hnx hb hx
          obtain ⟨k', hm'⟩ := advance hS hAd T ho hmi hm hls hb hx (fun b hb' => by
            by_cases hold : ρ b = none
            · refine .inr ⟨Classical.byContradiction fun hlt => hb' (hnx.2.2 b (by omega) hold), hb.mem.dom b hb'⟩
            · exact .inl hold)
          exact hn ρ' _ W' k' (rs_put hk hO T h ho hp hnx.1 (fun d hd => by rw [e, put_at hd]; exact hv)) hm'
      | false =>
        have hmem : isMem o = true := by unfold isMem; rw [hc]
        have mono0 : ∀ x y, x ≤ y → y ≤ ops.size → (η x).length ≤ (η y).length := by
          intro x y hxy
          induction hxy with
          | refl => intro _; exact Nat.le_refl _
          | step _ ih => intro hy; exact Nat.le_trans (ih (by omega)) (len_step (o := o) hS hT hk T hAd hX hB hr (by omega))
        by_cases hld : ∃ lt lx, o.op = .load lt lx
        · obtain ⟨lt, lx, hop⟩ := hld
          have hik : i < k := by
            refine Classical.byContradiction fun hge => ?_
            have hkl : k < ops.size := by omega
            have hok := Array.getElem?_eq_getElem hkl
            have hne : k ≠ i := by
              rintro rfl
              have := hm.here o ho
              rw [hmi] at this; cases this
            rcases hO.muts k i _ o hok ho hne (hm.here _ hok) hmem with (hpre | hpre) | hL
            · exact hm.above k _ (Nat.le_refl _) hok (hm.here _ hok) (hpre.down h.down (.inr ⟨o, ho, hp⟩))
            · have := hpre.lt hO; omega
            · obtain ⟨_, _, _, _, _, a', _, _, _, _, l1, l2, _⟩ := hL; omega
          have stab : ∀ d, i + d ≤ k → ∀ b off n x, rd (η i) b off n = some x → rd (η (i + d)) b off n = some x := by
            intro d
            induction d with
            | zero => intro _ b off n x hx; exact hx
            | succ d ih =>
              intro hd b off n x hx
              have h1 := ih (by omega) b off n x hx
              have hml : i + d < ops.size := by have := hm.le; omega
              have hpm := Array.getElem?_eq_getElem hml
              cases hmm : isMut q ops[i + d] with
              | false =>
                obtain ⟨G, hG⟩ := grow_steps T (i + d) 1 (by omega) (fun j p g1 g2 g3 => by
                  have : j = i + d := by omega
                  subst this
                  rw [hpm] at g3; cases g3; exact hmm)
                rw [show i + (d + 1) = i + d + 1 by omega, hG]
                exact rd_grow h1 G
              | true =>
                have hLs := hm.below (i + d) _ (by omega) hpm hmm
                have hne : i + d ≠ i := fun e => hnl (e ▸ hLs)
                rcases hO.muts (i + d) i _ o hpm ho hne hmm hmem with (hpre | hpre) | hL
                · have := hpre.lt hO; omega
                · exact absurd (hpre.down h.down (.inl hLs)) hnl
                · exact loose_step hO T hpm hL (fun a g1 g2 => mono0 i a g1 g2) (rd_lt hx) h1
          have stabk := stab (k - i) (by omega)
          rw [show i + (k - i) = k by omega] at stabk
          obtain ⟨v, ha, hs'⟩ := (AStep_plain (by rw [hop]; simp [clsOf])).1 hstep
          have ha' : aop tt o.op (ev (σ i)) (η k) = some (v, η k) := by
            rw [hop] at ha ⊢
            simp only [aop] at ha ⊢
            rw [Option.map_eq_some_iff] at ha ⊢
            obtain ⟨y, h1, h2⟩ := ha
            injection h2 with h2 _
            exact ⟨y, aLoad_same stabk h1, by rw [h2]⟩
          have hA : AStep tt S q o (σ i) (η k) (σ (i + 1)) (η k) := (AStep_plain (by rw [hop]; simp [clsOf])).2 ⟨v, ha', hs'⟩
          refine step_sound hS (fun _ _ => ⟨hxk, hm.step⟩) hT hA hko hm.step.mem h.size hE ?_ (fun _ hcl => by rw [hop] at hcl; cases hcl)
          intro v' V ρ' W' e hv hs _
          refine hn ρ' _ W' k (rs_put hk hO T h ho hp hs.le (fun d hd => by rw [e, put_at hd]; exact hv)) (hsame hmi (hm.step.trans hs) (fun km ρm Wm _ x4 _ _ => x4.trans hs) (fun b hb => ?_))
          refine .inl (fun hnone => ?_)
          have hlt := hs.mem.dom b hb
          exact hb (hs.fresh b hlt hnone)
        have hik : i < k := by
          refine Classical.byContradiction fun hge => ?_
          have hkl : k < ops.size := by omega
          have hok := Array.getElem?_eq_getElem hkl
          have hne : k ≠ i := by
            rintro rfl
            have := hm.here o ho
            rw [hmi] at this; cases this
          rcases hO.muts k i _ o hok ho hne (hm.here _ hok) hmem with (hpre | hpre) | hL
          · exact hm.above k _ (Nat.le_refl _) hok (hm.here _ hok) (hpre.down h.down (.inr ⟨o, ho, hp⟩))
          · have := hpre.lt hO; omega
          · obtain ⟨lt, lx, _, _, _, _, _, _, e, _⟩ := hL; exact hld ⟨lt, lx, e⟩
        have hno : ∀ j p, i ≤ j → j < k → ops[j]? = some p → isMut q p = false := by
          intro j p h1 h2 hpj
          cases hmj : isMut q p with
          | false => rfl
          | true =>
            exfalso
            have hL := hm.below j p h2 hpj hmj
            have hne : j ≠ i := fun e => hnl (e ▸ hL)
            rcases hO.muts j i p o hpj ho hne hmj hmem with (hpre | hpre) | hL2
            · have := hpre.lt hO; omega
            · exact hnl (hpre.down h.down (.inl hL))
            · obtain ⟨lt, lx, _, _, _, _, _, _, e, _⟩ := hL2; exact hld ⟨lt, lx, e⟩
        obtain ⟨G, hG⟩ := grow_steps T i (k - i) (by have := hm.le; omega) (fun j p g1 g2 g3 => hno j p g1 (by omega) g3)
        obtain ⟨G1, hG1⟩ := grow_steps T (i + 1) (k - (i + 1)) (by have := hm.le; omega) (fun j p g1 g2 g3 => hno j p (by omega) (by omega) g3)
        have e1 : i + (k - i) = k := by omega
        have e2 : i + 1 + (k - (i + 1)) = k := by omega
        rw [e1] at hG; rw [e2] at hG1
        obtain ⟨ρr, Wr, hreal, hrs, hrb, _⟩ := real_trace hS hT hk T hAd hX hB hr i (by omega)
        have hMc : Mem (ρ.cutTo ρr) (η i) W := by
          have := hm.step.mem
          rw [hG] at this
          exact this.cutTo hreal.1
        have hEc : ∀ x ∈ o.op.operands, VR (ρ.cutTo ρr) (ev (σ i) x) (a.eval x) := ev_of_reads hko (fun t ht => by
          obtain ⟨V0, h0⟩ := hreal.2 t
          exact VR.cutTo h0 (hreads t ht))
        have hnq : lq q o.dst = false → clsOf o.op = .call → False := fun hq hcl => by unfold isMut at hmi; rw [hcl, hq] at hmi; cases hmi
        refine step_sound hS (fun hq hcl => (hnq hq hcl).elim) hT hstep hko hMc h.size hEc ?_ (fun hq hcl => (hnq hq hcl).elim)
        intro v' V ρ' W' e hv hs _
        have mono : ∀ x y, x ≤ y → y ≤ ops.size → (η x).length ≤ (η y).length := by
          intro x y hxy
          induction hxy with
          | refl => intro _; exact Nat.le_refl _
          | step _ ih => intro hy; exact Nat.le_trans (ih (by omega)) (len_step (o := o) hS hT hk T hAd hX hB hr (by omega))
        have hfree : ∀ b, (η i).length ≤ b → b < (η (i + 1)).length → ρ b = none := by
          intro b g1 g2
          refine Classical.byContradiction fun hne => ?_
          obtain ⟨j, k1, k2, k3, k4⟩ := hm.new b (Nat.le_trans hrs g1) hne
          rcases Nat.lt_trichotomy j i with hlt | rfl | hgt
          · have := mono (j + 1) i (by omega) (by omega); omega
          · exact hnl k1
          · have := mono (i + 1) j (by omega) (by omega); omega
        obtain ⟨m1, m2, m3, m4⟩ := merge_step hm.step hG hG1 hreal.1 hs hfree hrb.len
        exact hn _ _ W' k (rs_put hk hO T h ho hp m2 (fun d hd => by rw [e, put_at hd]; exact hv.mono m3)) (hsame hmi m1 (fun km ρm Wm _ x4 x1 x2 => (merge_step x4 hG hG1 hreal.1 hs hfree (mono km i (by
          rcases x2 with x2 | ⟨j, p, hj, hmj, x2⟩
          · omega
          · rcases Nat.lt_or_ge j i with hji | hji
            · omega
            · have := hno j p hji (by omega) hj
              rw [hmj] at this; cases this) (by omega))).1) m4)
  · rename_i hw
    rw [if_neg hw]
    obtain ⟨hs', hH'⟩ := hstep
    refine ⟨fun _ _ => trivial, ?_⟩
    have hrt := rs_put hk hO T h ho hp (.refl ρ) (V := undef) (fun d hd => by rw [hs', put_at hd]; exact VR.undef ρ)
    cases hmi : isMut q o with
    | false => exact hn ρ _ W k hrt (hsame hmi hm.step (fun km ρm Wm _ x4 _ _ => x4) (fun b hb => .inl hb))
    | true =>
      have hik := hmk hmi; subst hik
      obtain ⟨k', hm'⟩ := advance hS hAd T ho hmi hm hls (by rw [hH']; exact hm.step) (by rw [hH']; exact hxk) (fun b hb => .inl hb)
      exact hn ρ _ W k' hrt hm'
theorem draw_sound (hS : SndB P r S X A β) (hX : X ρ0 (η 0) W0) (hB : β.To ρ0 (η 0) W0) (hT : TOK P tt) (hk : ops.toList.all (operOk n) = true) (hO : RegOk q ops) (T : Trace tt S q ops σ η) (hAd : AdmR tt S ops A) (hr : Real (σ 0) (η 0) ρ0 W0) {Q : Exit → Act → World → Prop}
    (hn : ∀ ρ' a' W', Rel n ds ρ' (σ ops.size) (η ops.size) a' W' → β.To ρ' (η ops.size) W' → X ρ' (η ops.size) W' → Q .normal a' W') : ∀ (f : Nat) (l : Array Bool) {ρ : Inj} {a : Act} {W : World} {k : Nat},
    l.toList.count false ≤ f → RT n ds ops σ l ρ a → RM q ops η β X A l ρ W k → wpAnyIn (FW r) m P .any ops Q f l a W := by
  have hend : ∀ (l : Array Bool) {ρ : Inj} {a : Act} {W : World} {k : Nat}, RT n ds ops σ l ρ a → RM q ops η β X A l ρ W k → Region.ready .any ops l = [] → Q .normal a W := by
    intro l ρ a W k h hm hl
    have hall := ready_none hO h.sz hl
    have hkN : k = ops.size := by
      refine Classical.byContradiction fun hne => ?_
      have hkl : k < ops.size := by have := hm.le; omega
      have hok := Array.getElem?_eq_getElem hkl
      exact hm.above k _ (Nat.le_refl _) hok (hm.here _ hok) (hall k hkl)
    subst hkN
    refine hn ρ a W ⟨hm.step.mem, h.size, h.defers, fun t => ?_⟩ hm.step (let ⟨km, ρm, Wm, x1, x2, x3, x4, x5⟩ := hm.inv; hS.st x3 x5 x4)
    by_cases hw : ∃ (w : Nat) (p : Oper), ops[w]? = some p ∧ p.dst = some t
    · obtain ⟨w, p, h1, h2⟩ := hw
      exact h.wrt t w p (hall w (Array.getElem?_eq_some_iff.1 h1).1) h1 h2
    · have e := T.keep (t := t) (i := 0) ops.size (by omega) (fun k' p' _ _ hpk hd => hw ⟨k', p', hpk, hd⟩)
      rw [Nat.zero_add] at e; rw [e]
      exact h.unw t (fun k' p' _ hpk hd => hw ⟨k', p', hpk, hd⟩)
  have hcount : ∀ (l : Array Bool) (i : Nat), l.size = ops.size → i ∈ Region.ready .any ops l → (l.setIfInBounds i true).toList.count false + 1 = l.toList.count false := by
    intro l i hs hi
    obtain ⟨o, ho, hil, hnl, _⟩ := ready_mem hs hi
    have hval : l.toList[i]? = some false := by
      unfold Lst at hnl
      simp [Array.getD_eq_getD_getElem?, Array.getElem?_eq_getElem hil] at hnl
      simp [Array.getElem?_eq_getElem hil, hnl]
    have key : ∀ (xs : List Bool) (i : Nat), xs[i]? = some false → (xs.set i true).count false + 1 = xs.count false := by
      intro xs
      induction xs with
      | nil => intro i h; simp at h
      | cons x xs ih =>
        intro i h
        cases i with
        | zero => simp at h; subst h; simp
        | succ i => simp at h; simp only [List.set_cons_succ, List.count_cons]; have := ih i h; omega
    rw [Array.toList_setIfInBounds]
    exact key _ _ hval
  intro f
  induction f with
  | zero =>
    intro l ρ a W k hf h hm
    have hnone : Region.ready .any ops l = [] := by
      cases hl : Region.ready .any ops l with
      | nil => rfl
      | cons i _ => have := hcount l i h.sz (by rw [hl]; simp); omega
    exact ⟨hnone, hend l h hm hnone⟩
  | succ f ih =>
    intro l ρ a W k hf h hm
    refine ⟨hend l h hm, fun i hi => rs_op hS hX hB hT hk hO T hAd hr h hm hi (fun ρ' a' W' k' h' hm' => ih _ (by have := hcount l i h.sz hi; omega) h' hm')⟩
theorem quiet_region (hS : SndB P r S X A β) (hAd : AdmR tt S ops A) (hT : TOK P tt) (hmix : P.follows .mixedOrders = true) (hk : ops.toList.all (operOk n) = true) (hO : regOk q ops = true) {id : Nat} {K : Slots → Heap → Prop} {Q : Exit → Act → World → Prop} {s : Slots} {H : Heap} {ρ : Inj} {a : Act} {W : World}
    (h : AxI tt S q ops K (List.range ops.size) s H) (hX : X ρ H W) (hB : β.To ρ H W) (hR : Rel n ds ρ s H a W) (hn : ∀ s' H' a' ρ' W', K s' H' → Rel n ds ρ' s' H' a' W' → β.To ρ' H' W' → X ρ' H' W' → Q .normal a' W') :
    (Code.region id ops true).wpIn (FW r) m P Q a W := by
  have hRO := regOk_of hO
  rw [List.range_eq_range'] at h
  obtain ⟨σ, η, rfl, rfl, hst, hK⟩ := trace_of ops.size 0 s H (by omega) h
  have T : Trace tt S q ops σ η := ⟨fun i o ho => hst i o (Nat.zero_le _) ho⟩
  refine wpIn_region_any hmix ?_
  have hd : Step ρ (η 0) W ρ (η 0) { W with drawn := W.drawn + 1 } := Step.same hR.mem rfl rfl rfl rfl
  have hreal : Real (σ 0) (η 0) ρ { W with drawn := W.drawn + 1 } := ⟨hd.mem, fun t => ⟨_, hR.slots t⟩⟩
  obtain ⟨k, h1, h2, h3, h4⟩ := next_mut T ops.size 0 (by omega)
  obtain ⟨G, hG⟩ := grow_steps T 0 k (by omega) (fun j p g1 g2 g3 => h3 j p g1 (by omega) g3)
  rw [Nat.zero_add] at hG
  have hnl : ∀ i, ¬ Lst (Array.replicate ops.size false) i := by
    intro i hL
    unfold Lst at hL
    by_cases hlt : i < ops.size <;> simp [Array.getD_eq_getD_getElem?, hlt] at hL
  refine draw_sound hS (hS.st hX (hS.rf _) hd) (hB.trans hd) hT hk hRO T hAd hreal (ρ0 := ρ) (W0 := { W with drawn := W.drawn + 1 }) (ds := ds) (fun ρ' a' W' hR' hB' hX' => hn _ _ a' ρ' W' hK hR' hB' hX') ops.size (Array.replicate ops.size false) (ρ := ρ) (k := k) (by simp) ?_ ?_
  · refine ⟨by simp, fun i o ho hL => absurd hL (hnl i), hR.size, hR.defers, fun t _ => hR.slots t, fun t i o hL => absurd hL (hnl i)⟩
  · refine ⟨h2, fun i o hi ho hmi => ?_, fun i o _ _ _ => hnl i, h4, ?_, ?_, fun b hb hne => ?_⟩
    · have := h3 i o (Nat.zero_le _) hi ho
      rw [hmi] at this; cases this
    · rw [hG]; exact (hB.trans hd).trans (Step.grow hd.mem G)
    · have ha := adm_steps hS.rf hS.tr hAd T 0 k (by omega) (fun j p g1 g2 g3 => h3 j p g1 (by omega) g3)
      rw [Nat.zero_add] at ha
      refine ⟨0, ρ, _, Nat.zero_le _, .inl rfl, hS.st hX (hS.rf _) hd, ?_, ha⟩
      rw [hG]; exact Step.grow hd.mem G
    · exact absurd (hR.mem.none_at hb) hne
end
end Go.Fw
namespace Go.Fw
open Go
def AEx.ex : AEx → Exit | .normal => .normal | .exit id => .exit id | .ret => .ret
section
variable {P : Program} {tt : TT} {r : Option Nat} {m n : Nat} {ds : List Deferred} {S : ACall} {X : Inj → Heap → World → Prop} {A : Heap → Heap → Prop} {β : Bas}
theorem reg_sound {ops : Array Oper} (hS : SndB P r S X A β) (hAd : AdmR tt S ops A) (hT : TOK P tt) (hmix : P.follows .mixedOrders = true) {draw : Bool} (hk : ops.toList.all (operOk n) = true) {id : Nat} {K : Slots → Heap → Prop} {Q : Exit → Act → World → Prop} {s : Slots} {H : Heap} {ρ : Inj} {a : Act} {W : World}
    (h : AxReg tt S ops draw K s H) (hB : β.To ρ H W) (hX : X ρ H W) (hR : Rel n ds ρ s H a W) (hn : ∀ s' H' a' ρ' W', K s' H' → Rel n ds ρ' s' H' a' W' → β.To ρ' H' W' → X ρ' H' W' → Q .normal a' W') :
    (Code.region id ops draw).wpIn (FW r) m P Q a W := by
  unfold AxReg at h
  split at h
  · rename_i hd
    subst hd
    rcases h with ⟨_, hO, h⟩ | ⟨s1, H1, h, hK1⟩
    · exact quiet_region hS hAd hT hmix hk hO h hX hB hR hn
    · refine wpIn_region_any hmix ?_
      have hd : Step ρ H W ρ H { W with drawn := W.drawn + 1 } := Step.same hR.mem rfl rfl rfl rfl
      exact axAny_sound (ds := ds) hS hAd hT hk ops.size _ h (hB.trans hd) (hS.st hX (hS.rf _) hd) ⟨hd.mem, hR.size, hR.defers, hR.slots⟩ (fun s' H' a' ρ' W' hK hR' hB' hX' => hn s' H' a' ρ' W' (by obtain ⟨rfl, rfl⟩ := hK; exact hK1) hR' hB' hX')
  · rename_i hd
    have : draw = false := by simpa using hd
    subst this
    exact wpIn_region (axI_sound (ds := ds) hS hAd hT hk _ h hB hX hR hn)
theorem axB_sound (hS : SndB P r S X (fun _ _ => True) β) (hT : TOK P tt) (hmix : P.follows .mixedOrders = true) : ∀ (c : Code) {Q : APost} {QC : Exit → Act → World → Prop} {s : Slots} {H : Heap} {ρ : Inj} {a : Act} {W : World}, codeOk n c = true →
    Ax tt S c Q s H → β.To ρ H W → X ρ H W → Rel n ds ρ s H a W → (∀ e s' H' a' ρ' W', Q e s' H' → Rel n ds ρ' s' H' a' W' → β.To ρ' H' W' → X ρ' H' W' → QC e.ex a' W') →
    c.wpIn (FW r) m P QC a W := by
  intro c
  induction c with
  | skip => intro Q QC s H ρ a W hk h hB hX hR hn; exact wpIn_skip (hn .normal s H a ρ W h hR hB hX)
  | region id ops draw =>
    intro Q QC s H ρ a W hk h hB hX hR hn
    exact reg_sound (ds := ds) hS (fun _ _ _ _ _ _ _ => trivial) hT hmix hk h hB hX hR (fun s' H' a' ρ' W' hK hR' hB' hX' => hn .normal s' H' a' ρ' W' hK hR' hB' hX')
  | seq x y ihx ihy =>
    intro Q QC s H ρ a W hk h hB hX hR hn
    simp only [codeOk, Bool.and_eq_true] at hk
    refine wpIn_seq (ihx hk.1 h hB hX hR ?_)
    intro e s' H' a' ρ' W' hQ hR' hB' hX'
    cases e with
    | normal => exact ihy hk.2 hQ hB' hX' hR' hn
    | exit id => exact hn (.exit id) s' H' a' ρ' W' hQ hR' hB' hX'
    | ret => exact hn .ret s' H' a' ρ' W' hQ hR' hB' hX'
  | cond c t e iht ihe =>
    intro Q QC s H ρ a W hk h hB hX hR hn
    simp only [codeOk, Bool.and_eq_true] at hk
    obtain ⟨b, hb, h⟩ := h
    have hc := ev_rel hR.slots hk.1.1
    rw [hb] at hc
    have hc' := hc.bool_inv
    refine wpIn_cond hc' ?_
    cases b with
    | true => exact iht hk.1.2 (by simpa using h) hB hX hR hn
    | false => exact ihe hk.2 (by simpa using h) hB hX hR hn
  | block id b ih =>
    intro Q QC s H ρ a W hk h hB hX hR hn
    refine wpIn_block (ih hk h hB hX hR ?_)
    intro e s' H' a' ρ' W' hQ hR' hB' hX'
    cases e with
    | normal => exact hn .normal s' H' a' ρ' W' hQ hR' hB' hX'
    | ret => exact hn .ret s' H' a' ρ' W' hQ hR' hB' hX'
    | exit id' =>
      simp only [AEx.ex, Exit.inBlock]
      simp only [AEx.inBlock] at hQ
      split at hQ
      · rename_i he; rw [if_pos he]; exact hn .normal s' H' a' ρ' W' hQ hR' hB' hX'
      · rename_i he; rw [if_neg he]; exact hn (.exit id') s' H' a' ρ' W' hQ hR' hB' hX'
  | loop b ih =>
    intro Q QC s H ρ a W hk h hB hX hR hn
    obtain ⟨k, h⟩ := h
    refine wpIn_loop_rounds k ?_
    have key : ∀ (k : Nat) {s : Slots} {H : Heap} {ρ1 : Inj} {a : Act} {W1 : World}, AxLoop (Ax tt S b) Q k s H → β.To ρ1 H W1 → X ρ1 H W1 → Rel n ds ρ1 s H a W1 → Code.roundsIn (FW r) m P b QC k a W1 := by
      intro k
      induction k with
      | zero => intro s H ρ1 a W1 h; exact h.elim
      | succ k ihk =>
        intro s H ρ1 a W1 h hB hX hR
        rw [roundsIn_succ]
        refine ih hk h hB hX hR ?_
        intro e s' H' a' ρ' W' hQ hR' hB' hX'
        cases e with
        | normal => exact ihk hQ hB' hX' hR'
        | exit id => exact hn (.exit id) s' H' a' ρ' W' hQ hR' hB' hX'
        | ret => exact hn .ret s' H' a' ρ' W' hQ hR' hB' hX'
    exact key k h hB hX hR
  | exit id => intro Q QC s H ρ a W hk h hB hX hR hn; exact wpIn_exit (hn (.exit id) s H a ρ W h hR hB hX)
  | ret => intro Q QC s H ρ a W hk h hB hX hR hn; exact wpIn_ret (hn .ret s H a ρ W h hR hB hX)
  | rangeFunc f ps x y _ _ => intro Q QC s H ρ a W hk; cases hk
  | scope b _ => intro Q QC s H ρ a W hk; cases hk
  | label l => intro Q QC s H ρ a W hk; cases hk
  | goto l => intro Q QC s H ρ a W hk; cases hk
  | refuse w => intro Q QC s H ρ a W hk; cases hk
theorem ax_sound (hS : Snd P r S X) (hT : TOK P tt) (hmix : P.follows .mixedOrders = true) (c : Code) {Q : APost} {QC : Exit → Act → World → Prop} {s : Slots} {H : Heap} {ρ : Inj} {a : Act} {W : World} (hk : codeOk n c = true)
    (h : Ax tt S c Q s H) (hX : X ρ H W) (hR : Rel n ds ρ s H a W) (hn : ∀ e s' H' a' ρ' W', Q e s' H' → Rel n ds ρ' s' H' a' W' → Step ρ H W ρ' H' W' → QC e.ex a' W') : c.wpIn (FW r) m P QC a W :=
  axB_sound (β := ⟨ρ, H, W⟩) (hS.toB _) hT hmix c hk h (Step.refl hR.mem) hX hR (fun e s' H' a' ρ' W' hQ hR' hB' _ => hn e s' H' a' ρ' W' hQ hR' hB')
def ini (args : Array Value) : Slots := fun t => args.getD t undef
def resL (tt : TT) (s : Slots) (H : Heap) : List ResultVar → Option (List Value)
  | [] => some []
  | .tmp t :: l => (resL tt s H l).map (s t :: ·)
  | .cell a t :: l => match aLoad tt H t (s a) with
    | some v => (resL tt s H l).map (v :: ·)
    | none => none
def resV : List Value → Value
  | [v] => v
  | l => .tuple l.toArray
theorem loadVar_sim {ρ : Inj} {H : Heap} {W : World} {t : TypeId} {a v A : Value} (hT : TOK P tt) (hM : Mem ρ H W) (h : aLoad tt H t a = some v) (ha : VR ρ a A) :
    ∃ A' V, A = .pointer (some A') ∧ (loadVar t A').run P W = .ok V W ∧ VR ρ v V := by
  obtain ⟨V, h1, h2⟩ := load_sim (P := P) hT hM h ha
  unfold aLoad at h
  split at h
  · obtain ⟨A', rfl, hn⟩ := ha.ptr_inv
    cases A' with
    | none => simp at hn
    | some A' => exact ⟨A', V, rfl, by simpa [Instr.loadAt, Instr.sureAddr] using h1, h2⟩
  · cases h
theorem resL_sim {ρ : Inj} {s : Slots} {H : Heap} {a : Act} {W : World} (hT : TOK P tt) (hR : Rel n ds ρ s H a W) : ∀ (l : List ResultVar) (vs : List Value), resL tt s H l = some vs →
    ∃ Vs : List Value, (l.mapM (fun (x : ResultVar) => match x with
      | .tmp t => pure (a.tmps.getD t undef)
      | .cell p t => do loadVar t (← asAddr (a.tmps.getD p undef)) : ResultVar → Sem Value)).run P W = .ok Vs W ∧ VRl ρ vs Vs := by
  intro l
  induction l with
  | nil => intro vs h; simp [resL] at h; subst h; exact ⟨[], by simp, rfl, fun i h _ => by simp at h⟩
  | cons x l ih =>
    intro vs h
    have fin : ∀ {v V : Value} {vs' Vs' : List Value}, VR ρ v V → VRl ρ vs' Vs' → VRl ρ (v :: vs') (V :: Vs') := by
      intro v V vs' Vs' h1 h2
      refine ⟨by simp [h2.1], fun i g1 g2 => ?_⟩
      cases i with
      | zero => exact h1
      | succ i => simp; exact h2.2 i (by simpa using g1) (by simpa using g2)
    cases x with
    | tmp t =>
      simp only [resL] at h
      obtain ⟨vs', h', rfl⟩ := map_some h
      obtain ⟨Vs, h1, h2⟩ := ih vs' h'
      exact ⟨_, by simp only [List.mapM_cons, Sem.run_bind, Sem.run_pure, Result.andThen_ok, h1], fin (hR.slots t) h2⟩
    | cell p t =>
      simp only [resL] at h
      split at h
      · rename_i v hv
        obtain ⟨vs', h', rfl⟩ := map_some h
        obtain ⟨Vs, h1, h2⟩ := ih vs' h'
        obtain ⟨A', V, e, h3, h4⟩ := loadVar_sim (P := P) hT hR.mem hv (hR.slots p)
        have hA : (asAddr (a.tmps.getD p undef)).run P W = .ok A' W := by rw [e]; rfl
        exact ⟨_, by simp only [List.mapM_cons, Sem.run_bind, hA, Sem.run_pure, Result.andThen_ok, h3, h1], fin h4 h2⟩
      · cases h
theorem results_sim {ρ : Inj} {s : Slots} {H : Heap} {a : Act} {W : World} {fn : Func} {vs : List Value} (hT : TOK P tt) (hR : Rel n ds ρ s H a W) (h : resL tt s H fn.results.toList = some vs) :
    ∃ V, (results fn a.tmps).run P W = .ok V W ∧ VR ρ (resV vs) V := by
  obtain ⟨Vs, h1, h2⟩ := resL_sim hT hR _ vs h
  have hm : (fn.results.mapM (fun (x : ResultVar) => match x with
      | .tmp t => pure (a.tmps.getD t undef)
      | .cell p t => do loadVar t (← asAddr (a.tmps.getD p undef)) : ResultVar → Sem Value)).run P W = .ok Vs.toArray W := by
    rw [← Array.toArray_toList (xs := fn.results), List.mapM_toArray]
    simp only [Sem.run_map, h1, Result.andThen_ok]
  unfold results
  simp only [Sem.run_bind]
  have hm' := hm
  refine ⟨if h : Vs.toArray.size = 1 then Vs.toArray[0] else .tuple Vs.toArray, ?_, ?_⟩
  · exact (congrArg (fun x => Result.andThen x _) hm').trans rfl
  · have hl := h2.1
    split
    · rename_i h0
      simp at h0
      obtain ⟨V, rfl⟩ := List.length_eq_one_iff.1 h0
      obtain ⟨v, rfl⟩ := List.length_eq_one_iff.1 (hl.trans h0)
      simpa [resV] using h2.2 0 (by simp) (by simp)
    · rename_i h0
      simp at h0
      have : resV vs = .tuple vs.toArray := by
        match vs with
        | [] => rfl
        | [v] => simp at hl; omega
        | _ :: _ :: _ => rfl
      rw [this]
      exact .tuple _ _ (by simpa using hl) (fun i g1 g2 => by simpa using h2.2 i (by simpa using g1) (by simpa using g2))
def retP (tt : TT) (fn : Func) (R : List Value → Heap → Prop) : APost := fun e s H =>
  match e with
  | .normal | .ret => ∃ vs, resL tt s H fn.results.toList = some vs ∧ R vs H
  | .exit _ => False
theorem sim_of_axS {S : ACall} (hSnd : Snd P none S (fun _ _ _ => True)) {f : FuncId} {fn : Func} {c : Code} {args : Array Value} {H H1 : Heap} {v : Value} (hT : TOK P tt) (hmix : P.follows .mixedOrders = true) (hf : P.funcs[f]? = some fn) (hb : fn.body = some c)
    (hname : (fn.name == "runtime.NumGoroutine") = false) (hok : codeOk fn.ntmps c = true) (ha : args.size ≤ fn.ntmps)
    (h : Ax tt S c (retP tt fn (fun vs H' => resV vs = v ∧ H' = H1)) (ini args) H) : Sim P f args H v H1 := by
  refine ⟨⟨fn, hf, hname, by rw [hb]; rfl⟩, fun ρ W ARGS hM hA => ?_⟩
  refine (callsIn_wide (n := 0)).1 ?_
  have hsz := hA.1
  have hR : Rel fn.ntmps [] ρ (ini args) H { tmps := ARGS ++ Array.replicate (fn.ntmps - ARGS.size) undef, defers := [] } W := by
    refine ⟨hM, by simp; omega, rfl, fun t => ?_⟩
    unfold ini
    by_cases hlt : t < args.size
    · have e1 : args.getD t undef = args[t] := by simp [Array.getD_eq_getD_getElem?, hlt]
      have e2 : (ARGS ++ Array.replicate (fn.ntmps - ARGS.size) undef).getD t undef = ARGS[t] := by
        rw [Array.getD_eq_getD_getElem?, Array.getElem?_append_left (by omega), Array.getElem?_eq_getElem (by omega)]; rfl
      rw [e1]
      simp only
      rw [e2]; exact hA.2 t hlt (by omega)
    · have e1 : args.getD t undef = undef := by simp [Array.getD_eq_getD_getElem?, Array.getElem?_eq_none (by omega : args.size ≤ t)]
      have e2 : (ARGS ++ Array.replicate (fn.ntmps - ARGS.size) undef).getD t undef = undef := by
        rw [Array.getD_eq_getD_getElem?, Array.getElem?_append_right (by omega)]
        by_cases h2 : t - ARGS.size < fn.ntmps - ARGS.size
        · simp [Array.getElem?_replicate, h2]
        · simp [Array.getElem?_replicate, h2]
      rw [e1]
      simp only
      rw [e2]; exact VR.undef ρ
  refine callsIn_of_wp hf hb trivial ?_ rfl
  have := ax_sound (r := none) (m := 0) (ds := []) (QC := bodyPost P fn fun e W' => ∃ V ρ', e = .returned V ∧ VR ρ' v V ∧ Step ρ H W ρ' H1 W') hSnd hT hmix c hok h trivial hR ?_
  · exact this
  · intro e s' H' a' ρ' W' hQ hR' hs
    have fin : (∃ vs, resL tt s' H' fn.results.toList = some vs ∧ resV vs = v ∧ H' = H1) → a'.defers = [] ∧ ∃ V, (results fn a'.tmps).run P W' = .ok V W' ∧ ∃ V' ρ'', Ending.returned V = .returned V' ∧ VR ρ'' v V' ∧ Step ρ H W ρ'' H1 W' := by
      rintro ⟨vs, h1, rfl, rfl⟩
      obtain ⟨V, h2, h3⟩ := results_sim (fn := fn) hT hR' h1
      exact ⟨hR'.defers, V, h2, V, ρ', rfl, h3, hs⟩
    cases e with
    | normal => exact fin hQ
    | ret => exact fin hQ
    | exit id => exact hQ.elim
theorem sim_of_ax {f : FuncId} {fn : Func} {c : Code} {args : Array Value} {H H1 : Heap} {v : Value} (hT : TOK P tt) (hmix : P.follows .mixedOrders = true) (hf : P.funcs[f]? = some fn) (hb : fn.body = some c)
    (hname : (fn.name == "runtime.NumGoroutine") = false) (hok : codeOk fn.ntmps c = true) (ha : args.size ≤ fn.ntmps)
    (h : Ax tt (SimF P) c (retP tt fn (fun vs H' => resV vs = v ∧ H' = H1)) (ini args) H) : Sim P f args H v H1 :=
  sim_of_axS (snd_sim P none) hT hmix hf hb hname hok ha h
end
end Go.Fw
namespace Go.Fw
open Go
def flat1 : Value → Bool
  | .agg cs => cs.toList.all plain
  | v => plain v
def flat : Value → Bool
  | .tuple vs => vs.toList.all flat1
  | v => flat1 v
theorem flat1_vr {v : Value} (h : flat1 v = true) {ρ ρ' : Inj} {V : Value} (hv : VR ρ v V) : VR ρ' v V := by
  have hp : ∀ {v V}, plain v = true → VR ρ v V → VR ρ' v V := by
    intro v V h hv
    unfold plain at h
    split at h <;> first | (exact Bool.noConfusion h) | (cases hv; constructor)
  unfold flat1 at h
  split at h
  · cases hv with
    | agg x x' hx k => exact .agg _ _ hx (fun i h1 h2 => hp (List.all_eq_true.1 h _ (by simp)) (k i h1 h2))
  · exact hp h hv
theorem flat_vr {v : Value} (h : flat v = true) {ρ ρ' : Inj} {V : Value} (hv : VR ρ v V) : VR ρ' v V := by
  unfold flat at h
  split at h
  · cases hv with
    | tuple x x' hx k => exact .tuple _ _ hx (fun i h1 h2 => flat1_vr (List.all_eq_true.1 h _ (by simp)) (k i h1 h2))
  · exact flat1_vr h hv
def Calm (H H1 : Heap) : Prop := H1.length = H.length ∧ ∀ (b : Nat) (B : Blk), H1[b]? = some B → H[b]? = some B ∨ B.cells.all plain = true
theorem Calm.refl (H : Heap) : Calm H H := ⟨rfl, fun _ _ h => .inl h⟩
theorem Mem.cutCalm {ρ ρr : Inj} {H H1 G : Heap} {W Wr : World} (hc : Calm H H1) (h : Mem ρ (H1 ++ G) W) (hr : Mem ρr H Wr) : Mem (ρ.cutTo ρr) H1 W := by
  have hlt : ∀ {b s}, ρ.cutTo ρr b = some s → b < H1.length := fun hb => by rw [hc.1]; exact hr.dom _ (cutTo_some hb).2
  refine ⟨fun b hb => ?_, fun b hb => ?_, fun b p hb => ?_, fun b b' p p' B hne hb hb' hB ho => ?_⟩
  · cases e : ρ.cutTo ρr b with
    | none => exact absurd e hb
    | some s => exact hlt e
  · have := h.gone b (cutTo_some hb).1
    rwa [List.getElem?_append_left (hlt hb)] at this
  · obtain ⟨B, hB, l⟩ := h.lies b p (cutTo_some hb).1
    rw [List.getElem?_append_left (hlt hb)] at hB
    refine ⟨B, hB, ⟨l.old, l.esz, l.pos, l.len, fun i v hv => ?_, l.mine, l.spare, l.hot⟩⟩
    obtain ⟨V, h1, h2⟩ := l.cell i v hv
    refine ⟨V, h1, ?_⟩
    rcases hc.2 b B hB with hold | hpl
    · cases hs : ρr b with
      | none => exact absurd hs (cutTo_some hb).2
      | some s =>
        cases s with
        | dead =>
          have := hr.gone b hs
          rw [hold] at this; cases this
          exact absurd l.pos (by simp [deadBlk])
        | lies pr =>
          obtain ⟨B', hB', l'⟩ := hr.lies b pr hs
          rw [hold] at hB'; cases hB'
          obtain ⟨V0, _, h3⟩ := l'.cell i v hv
          exact VR.cutTo h3 h2
    · have hpv : plain v = true := List.all_eq_true.1 hpl v (List.mem_of_getElem? hv)
      exact flat1_vr (by unfold flat1; split <;> first | (simp [plain] at hpv; done) | exact hpv) h2
  · exact h.apart b b' p p' B hne (cutTo_some hb).1 (cutTo_some hb').1 (by rw [List.getElem?_append_left (hlt hb)]; exact hB) ho
theorem Step.drop {ρ ρ' : Inj} {H H1 G : Heap} {W W' : World} (hM : Mem ρ H W) (hc : Calm H H1) (s : Step ρ H W ρ' (H1 ++ G) W') : Step ρ H W (ρ'.cutTo ρ) H1 W' := by
  refine ⟨s.mem.cutCalm hc hM, by rw [hc.1]; exact Nat.le_refl _, fun b x hb => ?_, fun b hb hn => ?_, fun b p B hb hB hk => ?_, s.frame⟩
  · have e : ρ'.cutTo ρ b = ρ' b := cutTo_eq (by simp [hb])
    rw [e]; exact s.le b x hb
  · simp [Inj.cutTo, hn]
  · refine s.placed b p B (cutTo_some hb).1 ?_ hk
    rw [List.getElem?_append_left (by rw [hc.1]; exact hM.dom _ (cutTo_some hb).2)]; exact hB
structure Kept (ρ : Inj) (H : Heap) (W : World) (ρ' : Inj) (T : Heap) (W' : World) (used : List Nat) (ρ1 : Inj) (H1 : Heap) : Prop where
  step : Step ρ H W ρ1 H1 W'
  from_ : ∀ b p, ρ1 b = some (.lies p) → ∃ b' p', ρ' b' = some (.lies p') ∧ p'.blk = p.blk ∧ (b' < H.length ∨ b' ∈ used)
theorem Kept.nil0 {ρ ρ' : Inj} {H H1 G : Heap} {W W' : World} (hM : Mem ρ H W) (hc : Calm H H1) (s : Step ρ H W ρ' (H1 ++ G) W') : Kept ρ H W ρ' (H1 ++ G) W' [] (ρ'.cutTo ρ) H1 :=
  ⟨s.drop hM hc, fun b p hb => ⟨b, p, (cutTo_some hb).1, rfl, .inl (hM.dom _ (cutTo_some hb).2)⟩⟩
theorem Kept.one {ρ ρ' ρ1 : Inj} {H T H1 : Heap} {W W' : World} {used : List Nat} (s : Step ρ H W ρ' T W') (k : Kept ρ H W ρ' T W' used ρ1 H1) {b i m : Nat} {p : Place} {B : Blk}
    (hb : ρ' b = some (.lies p)) (hB : T[b]? = some B) (ho : B.own = true) (hp : B.cells.all plain = true) (hl : H.length ≤ b) (hu : b ∉ used) (hm : i + m ≤ B.cells.length) :
    Kept ρ H W ρ' T W' (b :: used) (ρ1.put H1.length (.lies ⟨p.blk, p.off + i, p.ext - i, p.esz⟩)) (H1 ++ [⟨(B.cells.drop i).take m, B.esz, true⟩]) := by
  have hM1 := k.step.mem
  have h0 : ρ1 H1.length = none := hM1.none_at (Nat.le_refl _)
  have hle := Inj.le_put (s := .lies ⟨p.blk, p.off + i, p.ext - i, p.esz⟩) h0
  obtain ⟨B0, hB0, l⟩ := s.mem.lies b p hb
  obtain rfl : B0 = B := by rw [hB] at hB0; exact (Option.some.inj hB0).symm
  have hlen := l.len
  have hget : ∀ x, x < H1.length → (H1 ++ [(⟨(B0.cells.drop i).take m, B0.esz, true⟩ : Blk)])[x]? = H1[x]? := fun x hx => List.getElem?_append_left hx
  have hother : ∀ x q, ρ1 x = some (.lies q) → p.blk ≠ q.blk := by
    intro x q hx
    obtain ⟨b', p', g1, g2, g3⟩ := k.from_ x q hx
    have hne : b ≠ b' := by
      rintro rfl
      rcases g3 with g3 | g3
      · omega
      · exact hu g3
    rw [← g2]; exact s.mem.apart b b' p p' B0 hne hb g1 hB ho
  refine ⟨⟨⟨?_, ?_, ?_, ?_⟩, ?_, k.step.le.trans hle, ?_, ?_, k.step.frame⟩, ?_⟩
  · intro x hx
    simp
    by_cases e : x = H1.length
    · omega
    · rw [Inj.put_other _ _ e] at hx; have := hM1.dom x hx; omega
  · intro x hx
    by_cases e : x = H1.length
    · subst e; rw [Inj.put_same] at hx; cases hx
    · rw [Inj.put_other _ _ e] at hx
      rw [hget x (hM1.dom x (by simp [hx]))]; exact hM1.gone x hx
  · intro x q hx
    by_cases e : x = H1.length
    · subst e; rw [Inj.put_same] at hx; cases hx
      refine ⟨⟨(B0.cells.drop i).take m, B0.esz, true⟩, by simp, ⟨l.old, l.esz, l.pos, by simp; omega, fun j v hj => ?_, fun _ j hj => ?_, fun _ j V h1 h2 h3 => ?_, fun _ j => l.hot ho j⟩⟩
      case refine_3 =>
        dsimp only at h1 h2 h3
        simp only [List.length_take, List.length_drop] at h1
        rw [Nat.add_assoc] at h3
        by_cases hj : i + j < B0.cells.length
        · obtain ⟨U, hU, r⟩ := l.cell (i + j) B0.cells[i + j] (List.getElem?_eq_getElem hj)
          rw [hU] at h3; cases h3
          exact plain_vr (List.all_eq_true.1 hp _ (List.getElem_mem hj)) r
        · exact l.spare ho (i + j) V (by omega) (by omega) h3
      · dsimp only at hj ⊢
        rw [drop_take_get] at hj
        by_cases hjm : j < m
        · rw [if_pos hjm] at hj
          obtain ⟨V, h1, h2⟩ := l.cell _ v hj
          have hpv : plain v = true := List.all_eq_true.1 hp v (List.mem_of_getElem? hj)
          exact ⟨V, by rw [Nat.add_assoc]; exact h1, flat1_vr (by unfold flat1; split <;> first | (simp [plain] at hpv; done) | exact hpv) h2⟩
        · rw [if_neg hjm] at hj; cases hj
      · dsimp only at hj ⊢
        rw [Nat.add_assoc]; exact l.mine ho (i + j) (by omega)
    · rw [Inj.put_other _ _ e] at hx
      obtain ⟨B', hB', l'⟩ := hM1.lies x q hx
      exact ⟨B', by rw [hget x (hM1.dom x (by simp [hx]))]; exact hB', ⟨l'.old, l'.esz, l'.pos, l'.len, fun j v hv => let ⟨V, h1, h2⟩ := l'.cell j v hv; ⟨V, h1, h2.mono hle⟩, l'.mine, l'.spare, l'.hot⟩⟩
  · intro x y q q' B' hne hx hy hB' ho'
    by_cases e : x = H1.length
    · subst e; rw [Inj.put_same] at hx; cases hx
      rw [Inj.put_other _ _ (Ne.symm hne)] at hy
      exact hother y q' hy
    · rw [Inj.put_other _ _ e] at hx
      rw [hget x (hM1.dom x (by simp [hx]))] at hB'
      by_cases e' : y = H1.length
      · subst e'; rw [Inj.put_same] at hy; cases hy
        exact (hother x q hx).symm
      · rw [Inj.put_other _ _ e'] at hy
        exact hM1.apart x y q q' B' hne hx hy hB' ho'
  · simp; have := k.step.len; omega
  · intro x hx hn
    have hx1 : x ≠ H1.length := by have := k.step.len; omega
    rw [Inj.put_other _ _ hx1]; exact k.step.fresh x hx hn
  · intro x q B' hx hB' hk
    by_cases e : x = H1.length
    · subst e; rw [Inj.put_same] at hx; cases hx
      obtain ⟨b0, p0, B00, g1, g2, g3, g4⟩ := s.placed b p B0 hb hB hk
      exact ⟨b0, p0, B00, g1, g2, g3, fun _ => g4 ho⟩
    · rw [Inj.put_other _ _ e] at hx
      rw [hget x (hM1.dom x (by simp [hx]))] at hB'
      exact k.step.placed x q B' hx hB' hk
  · intro x q hx
    by_cases e : x = H1.length
    · subst e; rw [Inj.put_same] at hx; cases hx
      exact ⟨b, p, hb, rfl, .inr (by simp)⟩
    · rw [Inj.put_other _ _ e] at hx
      obtain ⟨b', p', g1, g2, g3⟩ := k.from_ x q hx
      exact ⟨b', p', g1, g2, g3.imp id (fun h => by simp [h])⟩
theorem kept_slice {ρ' ρ1 : Inj} {b i n c h1 : Nat} {p : Place} {B : Blk} {T : Heap} {W' : World} {V : Value} (hM : Mem ρ' T W') (hv : VR ρ' (.slice (some ⟨b, i, none⟩) n c) V) (hB : T[b]? = some B) (ho : B.own = true)
    (hc : c = 0 ∨ i + c * B.esz ≤ B.cells.length) : ∃ p, ρ' b = some (.lies p) ∧ ∀ ρ2 : Inj, ρ2 h1 = some (.lies ⟨p.blk, p.off + i, p.ext - i, p.esz⟩) → VR ρ2 (.slice (some ⟨h1, 0, none⟩) n 0) V := by
  have alive : ∀ s, ρ' b = some s → ∃ p, s = .lies p := by
    intro s hs
    cases s with
    | lies p => exact ⟨p, rfl⟩
    | dead => have := hM.gone b hs; rw [hB] at this; cases this; simp [deadBlk] at ho
  cases hv with
  | slice _ _ _ _ q C hq g1 g2 g3 =>
    refine ⟨q, hq, fun ρ2 h2 => ?_⟩
    obtain ⟨B0, hB0, l⟩ := hM.lies b q hq
    obtain rfl : B0 = B := by rw [hB] at hB0; exact (Option.some.inj hB0).symm
    refine .slice h1 0 n 0 ⟨q.blk, q.off + i, q.ext - i, q.esz⟩ C h2 g1 (.inl rfl) (fun _ => ?_)
    have hle := l.len
    have hez := l.esz
    show 0 + C * q.esz ≤ q.ext - i
    rcases hc with rfl | hc
    · have := g3 rfl; omega
    · rcases g2 with rfl | rfl
      · have := g3 rfl; omega
      · rw [hez]; omega
  | sliceNone _ _ A hq =>
    cases hs : ρ' b with
    | none => exact absurd hs hq
    | some s =>
      obtain ⟨p, rfl⟩ := alive s hs
      exact ⟨p, rfl, fun ρ2 h2 => .sliceNone h1 0 A (by simp [h2])⟩
  | sliceDead _ _ _ _ A C hq g1 g2 => obtain ⟨p, e⟩ := alive _ hq; cases e
section
variable {P : Program} {f : FuncId} {args : Array Value} {H H1 G : Heap}
theorem Sim.mono {v v' : Value} {H' H'' : Heap} (h : Sim P f args H v H')
    (k : ∀ ρ W V ρ' W', Mem ρ H W → VR ρ' v V → Step ρ H W ρ' H' W' → ∃ ρ'', VR ρ'' v' V ∧ Step ρ H W ρ'' H'' W') : Sim P f args H v' H'' := by
  refine ⟨h.1, fun ρ W ARGS hM hA => (h.2 ρ W ARGS hM hA).mono ?_⟩
  rintro e W' ⟨V, ρ', rfl, hv, hs⟩
  obtain ⟨ρ'', h1, h2⟩ := k ρ W V ρ' W' hM hv hs
  exact ⟨V, ρ'', rfl, h1, h2⟩
theorem Sim.flat {v : Value} (h : Sim P f args H v (H1 ++ G)) (hc : Calm H H1) (hf : flat v = true) : Sim P f args H v H1 :=
  h.mono fun ρ W V ρ' W' hM hv hs => ⟨ρ'.cutTo ρ, flat_vr hf hv, hs.drop hM hc⟩
theorem Sim.slice {b i n c : Nat} {B : Blk} (h : Sim P f args H (.slice (some ⟨b, i, none⟩) n c) (H1 ++ G)) (hc : Calm H H1) (hb : H.length ≤ b) (hB : (H1 ++ G)[b]? = some B) (ho : B.own = true)
    (hp : B.cells.all plain = true) (hn : i + n * B.esz ≤ B.cells.length) (hcap : c = 0 ∨ i + c * B.esz ≤ B.cells.length) :
    Sim P f args H (.slice (some ⟨H.length, 0, none⟩) n 0) (H1 ++ [⟨(B.cells.drop i).take (n * B.esz), B.esz, true⟩]) :=
  h.mono fun ρ W V ρ' W' hM hv hs => by
    obtain ⟨p, g1, g2⟩ := kept_slice (ρ1 := ρ') (h1 := H1.length) (p := ⟨0, 0, 0, 0⟩) hs.mem hv hB ho hcap
    have k := Kept.one hs (Kept.nil0 hM hc hs) (i := i) (m := n * B.esz) g1 hB ho hp hb (by simp) hn
    refine ⟨_, ?_, k.step⟩
    rw [← hc.1]; exact g2 _ (Inj.put_same _ _ _)
end
end Go.Fw
namespace Go.Fw
open Go
def upd (s : Slots) (d : Nat) (v : Value) : Slots := fun t => if t = d then v else s t
theorem upd_at (s : Slots) (d : Nat) (v : Value) (t : Nat) : upd s d v t = if t = d then v else s t := rfl
theorem put_some (s : Slots) (d : Nat) (v : Value) : s.put (some d) v = upd s d v := rfl
theorem put_none (s : Slots) (v : Value) : s.put none v = s := rfl
theorem ev_tmp (s : Slots) (t : Nat) : ev s (.tmp t) = s t := rfl
theorem ev_const (s : Slots) (v : Value) : ev s (.const v) = v := rfl
theorem ev_func (s : Slots) (f : Nat) : ev s (.func f) = .func (.func f) #[] #[] := rfl
def AxL (tt : TT) (S : ACall) (q : Nat) (ops : Array Oper) (K : Slots → Heap → Prop) : List Oper → Slots → Heap → Prop
  | [], s, H => K s H
  | o :: l, s, H => ∃ s' H', AOp tt S q ops o s H s' H' ∧ AxL tt S q ops K l s' H'
theorem axI_of_axL {tt : TT} {S : ACall} {q : Nat} {ops : Array Oper} {K : Slots → Heap → Prop} : ∀ (n k : Nat) (s : Slots) (H : Heap), k + n = ops.size → AxL tt S q ops K (ops.toList.drop k) s H → AxI tt S q ops K (List.range' k n) s H := by
  intro n
  induction n with
  | zero =>
    intro k s H hk h
    rw [List.drop_of_length_le (by simp; omega)] at h
    exact h
  | succ n ih =>
    intro k s H hk h
    have hlt : k < ops.size := by omega
    rw [List.drop_eq_getElem_cons (by simpa using hlt)] at h
    rw [List.range'_succ]
    unfold AxI
    rw [Array.getElem?_eq_getElem hlt]
    obtain ⟨s', H', h1, h2⟩ := h
    exact ⟨s', H', by simpa using h1, ih (k + 1) s' H' (by omega) h2⟩
theorem axI_list {tt : TT} {S : ACall} {q : Nat} {ops : Array Oper} {K : Slots → Heap → Prop} {s : Slots} {H : Heap} (h : AxL tt S q ops K ops.toList s H) : AxI tt S q ops K (List.range ops.size) s H := by
  rw [List.range_eq_range']
  exact axI_of_axL ops.size 0 s H (by omega) (by simpa using h)
section
variable {tt : TT} {S : ACall} {q : Nat} {ops : Array Oper} {K : Slots → Heap → Prop} {Q : APost} {s : Slots} {H : Heap}
theorem ax_quiet {id : Nat} (hO : regOk 1 ops = true) (h : AxL tt S 1 ops (Q .normal) ops.toList s H) : Ax tt S (.region id ops true) Q s H := by
  show AxReg tt S ops true (Q .normal) s H
  unfold AxReg
  simp only [if_true]
  exact .inl ⟨_, hO, axI_list h⟩
theorem ax_loud {id : Nat} (hO : regOk 0 ops = true) (h : AxL tt S 0 ops (Q .normal) ops.toList s H) : Ax tt S (.region id ops true) Q s H := by
  show AxReg tt S ops true (Q .normal) s H
  unfold AxReg
  simp only [if_true]
  exact .inl ⟨_, hO, axI_list h⟩
theorem axl_op {o : Oper} {l : List Oper} {v : Value} {H' : Heap} (hw : wantedA ops s o = true) (hc : clsOf o.op ≠ .call) (h : aop tt o.op (ev s) H = some (v, H')) (k : AxL tt S q ops K l (s.put o.dst v) H') : AxL tt S q ops K (o :: l) s H :=
  ⟨_, H', by unfold AOp; rw [if_pos hw]; exact (AStep_plain hc).2 ⟨v, h, rfl⟩, k⟩
theorem axl_call {o : Oper} {l : List Oper} {f : Operand} {args : Array Operand} {tys : Array TypeId} {g : FuncId} {first cap : Array Value} {v : Value} {H' : Heap} (hw : wantedA ops s o = true)
    (ho : o.op = .call { callee := .value f, args := args, argTypes := tys }) (hf : ev s f = .func (.func g) first cap) (hS : S (.func g) (first ++ args.map (ev s) ++ cap) H v H') (hq : lq q o.dst = true → ∃ G, H' = H ++ G)
    (k : AxL tt S q ops K l (s.put o.dst v) H') : AxL tt S q ops K (o :: l) s H :=
  ⟨_, H', by unfold AOp; rw [if_pos hw]; unfold AStep; rw [ho]; exact .inl ⟨g, first, cap, v, hf, hS, hq, rfl⟩, k⟩
def opThen (tt : TT) (op : Op) (s : Slots) (H : Heap) (k : Value → Heap → Prop) : Prop := match aop tt op (ev s) H with | some (v, H') => k v H' | none => False
theorem AxL_op {dst : Option Tmp} {op : Op} {ty : TypeId} {pos : String} {af : Array Edge} {l : List Oper} (hc : clsOf op ≠ .call) :
    AxL tt S q ops K (⟨dst, op, ty, pos, af, none⟩ :: l) s H = opThen tt op s H (fun v H' => AxL tt S q ops K l (s.put dst v) H') := by
  apply propext
  constructor
  · rintro ⟨s', H', h1, h2⟩
    unfold AOp at h1
    rw [if_pos (show wantedA ops s ⟨dst, op, ty, pos, af, none⟩ = true from rfl)] at h1
    obtain ⟨v, h3, rfl⟩ := (AStep_plain hc).1 h1
    unfold opThen
    rw [h3]; exact h2
  · intro h
    unfold opThen at h
    split at h
    · rename_i v H' h3
      exact axl_op rfl hc h3 h
    · exact h.elim
theorem thn_normal {K : Slots → Heap → Prop} : AEx.thn K Q .normal s H = K s H := rfl
theorem thn_ret {K : Slots → Heap → Prop} : AEx.thn K Q .ret s H = Q .ret s H := rfl
theorem thn_exit {K : Slots → Heap → Prop} {id : Nat} : AEx.thn K Q (.exit id) s H = Q (.exit id) s H := rfl
theorem inb_normal {id : Nat} : AEx.inBlock id Q .normal s H = Q .normal s H := rfl
theorem inb_ret {id : Nat} : AEx.inBlock id Q .ret s H = Q .ret s H := rfl
theorem inb_exit {id id' : Nat} : AEx.inBlock id Q (.exit id') s H = if id' = id then Q .normal s H else Q (.exit id') s H := rfl
theorem hp_get (L : Heap) (j : Nat) : (H ++ L)[H.length + j]? = L[j]? := by
  rw [List.getElem?_append_right (by omega)]; congr 1; omega
theorem hp_set (L : Heap) (j : Nat) (B : Blk) : (H ++ L).set (H.length + j) B = H ++ L.set j B := by
  rw [List.set_append_right _ _ (by omega)]; congr 1; congr 1; omega
theorem Ax_mono : ∀ (c : Code) {Q Q' : APost} {s : Slots} {H : Heap}, Ax tt S c Q s H → (∀ e s H, Q e s H → Q' e s H) → Ax tt S c Q' s H := by
  have regI : ∀ {q : Nat} {ops : Array Oper} {K K' : Slots → Heap → Prop}, (∀ s H, K s H → K' s H) → ∀ (l : List Nat) {s : Slots} {H : Heap}, AxI tt S q ops K l s H → AxI tt S q ops K' l s H := by
    intro q ops K K' hK l
    induction l with
    | nil => intro s H h; exact hK s H h
    | cons i l ih =>
      intro s H h
      unfold AxI at h ⊢
      cases ho : ops[i]? with
      | none => rw [ho] at h; exact ih h
      | some o =>
        rw [ho] at h
        obtain ⟨s', H', h1, h2⟩ := h
        exact ⟨s', H', h1, ih h2⟩
  intro c
  induction c with
  | skip => intro Q Q' s H h hQ; exact hQ _ _ _ h
  | region id ops draw =>
    intro Q Q' s H h hQ
    have h' : AxReg tt S ops draw (Q .normal) s H := h
    show AxReg tt S ops draw (Q' .normal) s H
    unfold AxReg at h' ⊢
    split at h'
    · rename_i hd
      rw [if_pos hd]
      rcases h' with ⟨_, hO, h'⟩ | ⟨s1, H1, h', hK⟩
      · exact .inl ⟨_, hO, regI (fun s H => hQ .normal s H) _ h'⟩
      · exact .inr (⟨s1, H1, h', hQ .normal s1 H1 hK⟩)
    · rename_i hd
      rw [if_neg hd]
      exact regI (fun s H => hQ .normal s H) _ h'
  | seq x y ihx ihy =>
    intro Q Q' s H h hQ
    refine ihx h ?_
    intro e s H h
    cases e with
    | normal => exact ihy h hQ
    | exit id => exact hQ _ _ _ h
    | ret => exact hQ _ _ _ h
  | cond c t e iht ihe =>
    intro Q Q' s H h hQ
    obtain ⟨b, hb, h⟩ := h
    refine ⟨b, hb, ?_⟩
    cases b with
    | true => exact iht (by simpa using h) hQ
    | false => exact ihe (by simpa using h) hQ
  | block id b ih =>
    intro Q Q' s H h hQ
    refine ih h ?_
    intro e s H h
    cases e with
    | normal => exact hQ _ _ _ h
    | ret => exact hQ _ _ _ h
    | exit id' =>
      simp only [AEx.inBlock] at h ⊢
      split at h
      · rename_i he; rw [if_pos he]; exact hQ _ _ _ h
      · rename_i he; rw [if_neg he]; exact hQ _ _ _ h
  | loop b ih =>
    intro Q Q' s H h hQ
    obtain ⟨n, h⟩ := h
    refine ⟨n, ?_⟩
    induction n generalizing s H with
    | zero => exact h.elim
    | succ n ihn =>
      refine ih h ?_
      intro e s H h
      cases e with
      | normal => exact ihn h
      | exit id => exact hQ _ _ _ h
      | ret => exact hQ _ _ _ h
  | exit id => intro Q Q' s H h hQ; exact hQ _ _ _ h
  | ret => intro Q Q' s H h hQ; exact hQ _ _ _ h
  | rangeFunc f ps x y _ _ => intro Q Q' s H h; exact h.elim
  | scope b _ => intro Q Q' s H h; exact h.elim
  | label l => intro Q Q' s H h; exact h.elim
  | goto l => intro Q Q' s H h; exact h.elim
  | refuse w => intro Q Q' s H h; exact h.elim
def exactly (e : AEx) (s : Slots) (H : Heap) : APost := fun e1 s1 H1 => e1 = e ∧ s1 = s ∧ H1 = H
theorem ax_path : ∀ (c : Code) {Q : APost} {s : Slots} {H : Heap}, Ax tt S c Q s H → ∃ e s' H', Ax tt S c (exactly e s' H') s H ∧ Q e s' H' := by
  have regI : ∀ {q : Nat} {ops : Array Oper} {K : Slots → Heap → Prop} (l : List Nat) {s : Slots} {H : Heap}, AxI tt S q ops K l s H → ∃ s' H', AxI tt S q ops (exactly .normal s' H' .normal) l s H ∧ K s' H' := by
    intro q ops K l
    induction l with
    | nil => intro s H h; exact ⟨s, H, ⟨rfl, rfl, rfl⟩, h⟩
    | cons i l ih =>
      intro s H h
      unfold AxI at h ⊢
      cases ho : ops[i]? with
      | none => rw [ho] at h; exact ih h
      | some o =>
        rw [ho] at h
        obtain ⟨s', H', h1, h2⟩ := h
        obtain ⟨s2, H2, h3, h4⟩ := ih h2
        exact ⟨s2, H2, ⟨s', H', h1, h3⟩, h4⟩
  intro c
  induction c with
  | skip => intro Q s H h; exact ⟨.normal, s, H, ⟨rfl, rfl, rfl⟩, h⟩
  | region id ops draw =>
    intro Q s H h
    have h' : AxReg tt S ops draw (Q .normal) s H := h
    unfold AxReg at h'
    split at h'
    · rename_i hd
      rcases h' with ⟨_, hO, h'⟩ | ⟨s1, H1, h', hK⟩
      · obtain ⟨s', H', h1, h2⟩ := regI _ h'
        exact ⟨.normal, s', H', by show AxReg tt S ops draw _ s H; unfold AxReg; rw [if_pos hd]; exact .inl ⟨_, hO, h1⟩, h2⟩
      · exact ⟨.normal, s1, H1, by show AxReg tt S ops draw _ s H; unfold AxReg; rw [if_pos hd]; exact .inr ⟨s1, H1, h', rfl, rfl, rfl⟩, hK⟩
    · rename_i hd
      obtain ⟨s', H', h1, h2⟩ := regI _ h'
      exact ⟨.normal, s', H', by show AxReg tt S ops draw _ s H; unfold AxReg; rw [if_neg hd]; exact h1, h2⟩
  | seq x y ihx ihy =>
    intro Q s H h
    obtain ⟨e, s1, H1, h1, h2⟩ := ihx h
    cases e with
    | normal =>
      obtain ⟨e, s2, H2, h3, h4⟩ := ihy h2
      refine ⟨e, s2, H2, Ax_mono x h1 ?_, h4⟩
      rintro _ _ _ ⟨rfl, rfl, rfl⟩
      exact h3
    | exit id =>
      refine ⟨.exit id, s1, H1, Ax_mono x h1 ?_, h2⟩
      rintro _ _ _ ⟨rfl, rfl, rfl⟩
      exact ⟨rfl, rfl, rfl⟩
    | ret =>
      refine ⟨.ret, s1, H1, Ax_mono x h1 ?_, h2⟩
      rintro _ _ _ ⟨rfl, rfl, rfl⟩
      exact ⟨rfl, rfl, rfl⟩
  | cond c t e iht ihe =>
    intro Q s H h
    obtain ⟨b, hb, h⟩ := h
    cases b with
    | true =>
      obtain ⟨e1, s1, H1, h1, h2⟩ := iht (by simpa using h)
      exact ⟨e1, s1, H1, ⟨true, hb, by simpa using h1⟩, h2⟩
    | false =>
      obtain ⟨e1, s1, H1, h1, h2⟩ := ihe (by simpa using h)
      exact ⟨e1, s1, H1, ⟨false, hb, by simpa using h1⟩, h2⟩
  | block id b ih =>
    intro Q s H h
    obtain ⟨e, s1, H1, h1, h2⟩ := ih h
    cases e with
    | normal =>
      refine ⟨.normal, s1, H1, Ax_mono b h1 ?_, h2⟩
      rintro _ _ _ ⟨rfl, rfl, rfl⟩
      exact ⟨rfl, rfl, rfl⟩
    | ret =>
      refine ⟨.ret, s1, H1, Ax_mono b h1 ?_, h2⟩
      rintro _ _ _ ⟨rfl, rfl, rfl⟩
      exact ⟨rfl, rfl, rfl⟩
    | exit id' =>
      simp only [AEx.inBlock] at h2
      split at h2
      · rename_i he
        refine ⟨.normal, s1, H1, Ax_mono b h1 ?_, h2⟩
        rintro _ _ _ ⟨rfl, rfl, rfl⟩
        simp only [AEx.inBlock]; rw [if_pos he]; exact ⟨rfl, rfl, rfl⟩
      · rename_i he
        refine ⟨.exit id', s1, H1, Ax_mono b h1 ?_, h2⟩
        rintro _ _ _ ⟨rfl, rfl, rfl⟩
        simp only [AEx.inBlock]; rw [if_neg he]; exact ⟨rfl, rfl, rfl⟩
  | loop b ih =>
    intro Q s H h
    obtain ⟨n, h⟩ := h
    have key : ∀ n s H, AxLoop (Ax tt S b) Q n s H → ∃ e s' H', AxLoop (Ax tt S b) (exactly e s' H') n s H ∧ Q e s' H' := by
      intro n
      induction n with
      | zero => intro s H h; exact h.elim
      | succ n ihn =>
        intro s H h
        obtain ⟨e, s1, H1, h1, h2⟩ := ih h
        cases e with
        | normal =>
          obtain ⟨e, s2, H2, h3, h4⟩ := ihn _ _ h2
          refine ⟨e, s2, H2, Ax_mono b h1 ?_, h4⟩
          rintro _ _ _ ⟨rfl, rfl, rfl⟩
          exact h3
        | exit id =>
          refine ⟨.exit id, s1, H1, Ax_mono b h1 ?_, h2⟩
          rintro _ _ _ ⟨rfl, rfl, rfl⟩
          exact ⟨rfl, rfl, rfl⟩
        | ret =>
          refine ⟨.ret, s1, H1, Ax_mono b h1 ?_, h2⟩
          rintro _ _ _ ⟨rfl, rfl, rfl⟩
          exact ⟨rfl, rfl, rfl⟩
    obtain ⟨e, s1, H1, h1, h2⟩ := key n s H h
    exact ⟨e, s1, H1, ⟨n, h1⟩, h2⟩
  | exit id => intro Q s H h; exact ⟨.exit id, s, H, ⟨rfl, rfl, rfl⟩, h⟩
  | ret => intro Q s H h; exact ⟨.ret, s, H, ⟨rfl, rfl, rfl⟩, h⟩
  | rangeFunc f ps x y _ _ => intro Q s H h; exact h.elim
  | scope b _ => intro Q s H h; exact h.elim
  | label l => intro Q s H h; exact h.elim
  | goto l => intro Q s H h; exact h.elim
  | refuse w => intro Q s H h; exact h.elim
end
theorem sim_ex {P : Program} {tt : TT} {f : FuncId} {fn : Func} {c : Code} {args : Array Value} {H : Heap} {R : Value → Heap → Prop} (hT : TOK P tt) (hmix : P.follows .mixedOrders = true) (hf : P.funcs[f]? = some fn) (hb : fn.body = some c)
    (hname : (fn.name == "runtime.NumGoroutine") = false) (hok : codeOk fn.ntmps c = true) (ha : args.size ≤ fn.ntmps)
    (h : Ax tt (SimF P) c (retP tt fn (fun vs H' => R (resV vs) H')) (ini args) H) : ∃ v H', Sim P f args H v H' ∧ R v H' := by
  obtain ⟨e, s1, H1, h1, h2⟩ := ax_path c h
  have key : ∃ vs, resL tt s1 H1 fn.results.toList = some vs ∧ R (resV vs) H1 ∧ (e = .normal ∨ e = .ret) := by
    cases e with
    | normal => obtain ⟨vs, a, b⟩ := h2; exact ⟨vs, a, b, .inl rfl⟩
    | ret => obtain ⟨vs, a, b⟩ := h2; exact ⟨vs, a, b, .inr rfl⟩
    | exit id => exact h2.elim
  obtain ⟨vs, a, b, he⟩ := key
  refine ⟨resV vs, H1, sim_of_ax hT hmix hf hb hname hok ha (Ax_mono c h1 ?_), b⟩
  rintro e' s' H' ⟨rfl, rfl, rfl⟩
  rcases he with rfl | rfl
  · exact ⟨vs, a, rfl, rfl⟩
  · exact ⟨vs, a, rfl, rfl⟩
end Go.Fw
namespace Go.Fw
open Go
def eqFs (P : Program) (rec : TypeId → Option (List TD)) : List Field → Nat → Option (List TD)
  | [], _ => some []
  | f :: fs, o =>
    match rec f.type with
    | some ks =>
      if (f.name == "_") = false ∧ f.offset = o ∧ (P.info? f.type).map (·.size) = some ks.length then
        match eqFs P rec fs (o + ks.length) with
        | some ks' => some (ks ++ ks')
        | none => none
      else none
    | none => none
def eqKs (P : Program) : Nat → TypeId → Option (List TD)
  | 0, _ => none
  | d + 1, t =>
    match P.underlying t with
    | some .bool => some [.bool]
    | some (.int k) => some [.int k]
    | some .string => some [.str]
    | some (.struct fs) => if P.stoodInHeld t = true then none else eqFs P (eqKs P d) fs.toList 0
    | _ => none
theorem cellsEq_append : ∀ (a a' b b' : List Value), a.length = b.length → cellsEq (a ++ a') (b ++ b') = (cellsEq a b && cellsEq a' b') := by
  intro a
  induction a with
  | nil => intro a' b b' h; cases b with
    | nil => simp [cellsEq]
    | cons _ _ => simp at h
  | cons x a ih =>
    intro a' b b' h
    cases b with
    | nil => simp at h
    | cons y b => simp only [List.cons_append, cellsEq]; rw [ih a' b b' (by simpa using h), Bool.and_assoc]
def isStruct (P : Program) (t : TypeId) : Bool := match P.underlying t with | some (.struct _) => true | _ => false
section
variable {P : Program}
theorem kinds_one {xs : List Value} {k : TD} (h : xs.map kindOf = [k].map some) : ∃ v, xs = [v] ∧ kindOf v = some k := by
  have hl : xs.length = 1 := by have := congrArg List.length h; simpa using this
  obtain ⟨v, rfl⟩ := List.length_eq_one_iff.1 hl
  exact ⟨v, rfl, by simpa using h⟩
theorem eqKs_leaf {d : Nat} {t : TypeId} {ks : List TD} (h : eqKs P d t = some ks) (hs : isStruct P t = false) (W : World) {x y : Value} (hx : [x].map kindOf = ks.map some) (hy : [y].map kindOf = ks.map some) (D : Nat) :
    (Op.equalIn (D + 1) t x y).run P W = .ok (scalarEq x y) W ∧ (isAgg t).run P W = .ok false W := by
  cases d with
  | zero => cases h
  | succ d =>
    unfold eqKs at h
    unfold isStruct at hs
    have fin : ∀ {dd : TypeDesc}, P.underlying t = some dd → (match dd with | .struct _ | .array _ _ => true | _ => false) = false → (isAgg t).run P W = .ok false W := by
      intro dd hd hb
      unfold isAgg
      simp only [Sem.run_bind, run_underlying hd, Result.andThen_ok]
      cases dd <;> first | rfl | cases hb
    split at h
    · rename_i hu
      cases h
      simp at hx hy
      cases x <;> simp [kindOf] at hx
      cases y <;> simp [kindOf] at hy
      exact ⟨by rw [Op.equalIn]; simp [run_underlying hu, scalarEq], fin hu rfl⟩
    · rename_i k hu
      cases h
      simp at hx hy
      cases x <;> simp [kindOf] at hx
      cases y <;> simp [kindOf] at hy
      subst hx; subst hy
      exact ⟨by rw [Op.equalIn]; simp [run_underlying hu, scalarEq], fin hu rfl⟩
    · rename_i hu
      cases h
      simp at hx hy
      cases x <;> simp [kindOf] at hx
      cases y <;> simp [kindOf] at hy
      exact ⟨by rw [Op.equalIn]; simp [run_underlying hu, scalarEq], fin hu rfl⟩
    · rename_i fs hu; rw [hu] at hs; cases hs
    · cases h
theorem eqFs_run {rec : TypeId → Option (List TD)} {D : Nat} (hrec : ∀ t ks, rec t = some ks → (isStruct P t = false → ∀ (W : World) (x y : Value), [x].map kindOf = ks.map some → [y].map kindOf = ks.map some → (Op.equalIn D t x y).run P W = .ok (scalarEq x y) W ∧ (isAgg t).run P W = .ok false W) ∧
      (isStruct P t = true → ∀ (W : World) (xs ys : Array Value), xs.toList.map kindOf = ks.map some → ys.toList.map kindOf = ks.map some → (Op.equalIn D t (.agg xs) (.agg ys)).run P W = .ok (cellsEq xs.toList ys.toList) W)) (hlen : ∀ t ks, rec t = some ks → isStruct P t = false → ks.length = 1)
    (W : World) (XS YS : Array Value) : ∀ (fs : List Field) (o : Nat) (ks : List TD), eqFs P rec fs o = some ks → (XS.toList.drop o).map kindOf = ks.map some → (YS.toList.drop o).map kindOf = ks.map some →
    (Op.eqFields D XS YS fs).run P W = .ok (cellsEq (XS.toList.drop o) (YS.toList.drop o)) W := by
  intro fs
  induction fs with
  | nil =>
    intro o ks h hx hy
    simp [eqFs] at h; subst h
    simp at hx hy
    rw [List.drop_of_length_le (by simpa using hx), List.drop_of_length_le (by simpa using hy)]
    simp [Op.eqFields, cellsEq]
  | cons f fs ih =>
    intro o ks h hx hy
    unfold eqFs at h
    split at h
    · rename_i k1 hk1
      split at h
      · rename_i hc
        obtain ⟨hn, ho, hsz⟩ := hc
        split at h
        · rename_i k2 hk2
          cases h
          have hn' : f.name ≠ "_" := by simpa using hn
          have hlx : (XS.toList.drop o).length = k1.length + k2.length := by have := congrArg List.length hx; simpa using this
          have hly : (YS.toList.drop o).length = k1.length + k2.length := by have := congrArg List.length hy; simpa using this
          have sx : XS.toList.drop o = (XS.toList.drop o).take k1.length ++ XS.toList.drop (o + k1.length) := by
            rw [← List.drop_drop, List.take_append_drop]
          have sy : YS.toList.drop o = (YS.toList.drop o).take k1.length ++ YS.toList.drop (o + k1.length) := by
            rw [← List.drop_drop, List.take_append_drop]
          have hx1 : ((XS.toList.drop o).take k1.length).map kindOf = k1.map some := by
            rw [List.map_take, hx]; simp
          have hy1 : ((YS.toList.drop o).take k1.length).map kindOf = k1.map some := by
            rw [List.map_take, hy]; simp
          have hx2 : (XS.toList.drop (o + k1.length)).map kindOf = k2.map some := by
            rw [← List.drop_drop, List.map_drop, hx]; simp
          have hy2 : (YS.toList.drop (o + k1.length)).map kindOf = k2.map some := by
            rw [← List.drop_drop, List.map_drop, hy]; simp
          have e := ih (o + k1.length) k2 hk2 hx2 hy2
          have hsize : (sizeOf f.type).run P W = .ok k1.length W := by
            obtain ⟨n, h1, h2⟩ := Option.map_eq_some_iff.1 hsz
            simp [sizeOf, typeInfo, h1, h2]
          have hcell : ∃ a b, (part f.type XS f.offset).run P W = .ok a W ∧ (part f.type YS f.offset).run P W = .ok b W ∧ (Op.equalIn D f.type a b).run P W = .ok (cellsEq ((XS.toList.drop o).take k1.length) ((YS.toList.drop o).take k1.length)) W := by
            cases hst : isStruct P f.type with
            | true =>
              have hagg : (isAgg f.type).run P W = .ok true W := by
                unfold isStruct at hst
                split at hst
                · rename_i gs hu
                  unfold isAgg
                  simp [run_underlying hu]
                · cases hst
              refine ⟨.agg (XS.extract f.offset (f.offset + k1.length)), .agg (YS.extract f.offset (f.offset + k1.length)), ?_, ?_, ?_⟩
              · simp only [part, Sem.run_bind, hagg, Result.andThen_ok, if_true, hsize, Sem.run_pure]
              · simp only [part, Sem.run_bind, hagg, Result.andThen_ok, if_true, hsize, Sem.run_pure]
              · have ex : (XS.extract f.offset (f.offset + k1.length)).toList = (XS.toList.drop o).take k1.length := by rw [ho]; simp [List.extract_eq_take_drop]
                have ey : (YS.extract f.offset (f.offset + k1.length)).toList = (YS.toList.drop o).take k1.length := by rw [ho]; simp [List.extract_eq_take_drop]
                have := (hrec f.type k1 hk1).2 hst W (XS.extract f.offset (f.offset + k1.length)) (YS.extract f.offset (f.offset + k1.length)) (by rw [ex]; exact hx1) (by rw [ey]; exact hy1)
                rw [ex, ey] at this; exact this
            | false =>
              have h1 := hlen f.type k1 hk1 hst
              obtain ⟨k, rfl⟩ := List.length_eq_one_iff.1 h1
              obtain ⟨a, ha, hka⟩ := kinds_one hx1
              obtain ⟨b, hb, hkb⟩ := kinds_one hy1
              obtain ⟨e1, e2⟩ := (hrec f.type [k] hk1).1 hst W a b (by simp [hka]) (by simp [hkb])
              have ga : XS[o]? = some a := by
                have := congrArg (·[0]?) ha
                simpa using this
              have gb : YS[o]? = some b := by
                have := congrArg (·[0]?) hb
                simpa using this
              refine ⟨a, b, ?_, ?_, ?_⟩
              · simp only [part, Sem.run_bind, e2, Result.andThen_ok, Bool.false_eq_true, if_false, ho, ga, Sem.run_pure]
              · simp only [part, Sem.run_bind, e2, Result.andThen_ok, Bool.false_eq_true, if_false, ho, gb, Sem.run_pure]
              · rw [ha, hb]; simp [cellsEq, e1]
          obtain ⟨a, b, ha, hb, hab⟩ := hcell
          have efin : cellsEq (XS.toList.drop o) (YS.toList.drop o) = (cellsEq ((XS.toList.drop o).take k1.length) ((YS.toList.drop o).take k1.length) && cellsEq (XS.toList.drop (o + k1.length)) (YS.toList.drop (o + k1.length))) := by
            rw [← cellsEq_append _ _ _ _ (by rw [List.length_take, List.length_take, hlx, hly]), ← sx, ← sy]
          rw [efin, Op.eqFields]
          simp only [if_pos hn', Sem.run_bind, ha, hb, hab, Result.andThen_ok]
          cases hce : cellsEq ((XS.toList.drop o).take k1.length) ((YS.toList.drop o).take k1.length) with
          | false => simp
          | true => simpa using e
        · cases h
      · cases h
    · cases h
theorem eqKs_len {d : Nat} {t : TypeId} {ks : List TD} (h : eqKs P d t = some ks) (hs : isStruct P t = false) : ks.length = 1 := by
  cases d with
  | zero => cases h
  | succ d =>
    unfold eqKs at h
    unfold isStruct at hs
    split at h
    · cases h; rfl
    · cases h; rfl
    · cases h; rfl
    · rename_i fs hu; rw [hu] at hs; cases hs
    · cases h
theorem eqKs_run : ∀ (d : Nat) (t : TypeId) (ks : List TD), eqKs P d t = some ks → isStruct P t = true → ∀ (D : Nat), d ≤ D → ∀ (W : World) (xs ys : Array Value), xs.toList.map kindOf = ks.map some → ys.toList.map kindOf = ks.map some →
    (Op.equalIn D t (.agg xs) (.agg ys)).run P W = .ok (cellsEq xs.toList ys.toList) W := by
  intro d
  induction d with
  | zero => intro t ks h; cases h
  | succ d ih =>
    intro t ks h hs D hD W xs ys hx hy
    obtain ⟨D, rfl⟩ : ∃ D', D = D' + 1 := ⟨D - 1, by omega⟩
    have h0 := h
    unfold eqKs at h
    unfold isStruct at hs
    split at h
    · rename_i hu; rw [hu] at hs; cases hs
    · rename_i hu; rw [hu] at hs; cases hs
    · rename_i hu; rw [hu] at hs; cases hs
    · rename_i fs hu
      split at h
      · cases h
      · rename_i hst
        have hf : P.fieldsOf t = fs := by simp [Program.fieldsOf, hu]
        rw [run_equalIn_struct (P := P) W D t xs ys (by rw [hf]; exact hu) (by simpa using hst), hf]
        have := eqFs_run (P := P) (rec := eqKs P d) (D := D) (fun t' ks' h' => ⟨fun hs' W x y hx hy => by
            have hd : d ≠ 0 := fun e => by subst e; cases h'
            obtain ⟨D', rfl⟩ : ∃ D', D = D' + 1 := ⟨D - 1, by omega⟩
            exact eqKs_leaf h' hs' W hx hy D', fun hs' W xs ys hx hy => ih t' ks' h' hs' D (by omega) W xs ys hx hy⟩) (fun t' ks' h' hs' => eqKs_len h' hs') W xs ys fs.toList 0 ks h (by simpa using hx) (by simpa using hy)
        simpa using this
    · cases h
theorem eqKs_guard : ∀ (d : Nat) (t : TypeId) (ks : List TD), eqKs P d t = some ks → ∀ (D : Nat), d ≤ D → P.eqGuardType D t = false := by
  intro d
  induction d with
  | zero => intro t ks h; cases h
  | succ d ih =>
    intro t ks h D hD
    obtain ⟨D, rfl⟩ : ∃ D', D = D' + 1 := ⟨D - 1, by omega⟩
    unfold eqKs at h
    unfold Program.eqGuardType
    split at h
    · rename_i hu; rw [hu]
    · rename_i hu; rw [hu]
    · rename_i hu; rw [hu]
    · rename_i fs hu
      rw [hu]
      split at h
      · cases h
      · simp only
        have key : ∀ (l : List Field) (o : Nat) (ks : List TD), eqFs P (eqKs P d) l o = some ks → ∀ f ∈ l, P.eqGuardType D f.type = false := by
          intro l
          induction l with
          | nil => intro o ks _ f hf; simp at hf
          | cons g l ihl =>
            intro o ks h f hf
            unfold eqFs at h
            split at h
            · rename_i k1 hk1
              split at h
              · split at h
                · rename_i k2 hk2
                  rcases List.mem_cons.1 hf with rfl | hf
                  · exact ih _ _ hk1 D (by omega)
                  · exact ihl _ _ hk2 f hf
                · cases h
              · cases h
            · cases h
        have := key fs.toList 0 ks h
        rw [Array.any_eq_false']
        intro f hf
        simp [this f (by simpa using hf)]
    · cases h
theorem TOKat.make {t : TypeId} {i : TI} {d : TypeDesc} (h1 : (P.info? t).map (fun n => (n.size, n.bytes, n.zero)) = some (i.size, i.bytes, some i.zero)) (h2 : P.underlying t = some d) (h3 : i.d.fits d = true) (h4 : i.zero.cells.toList.all plain = true)
    (h5 : ∀ ks, i.eqk = some ks → eqKs P 8 t = some ks ∧ isStruct P t = true) (h6 : 8 ≤ P.depth) : TOKat P t i := by
  obtain ⟨n, hn, he⟩ := Option.map_eq_some_iff.1 h1
  simp only [Prod.mk.injEq] at he
  refine ⟨⟨n, hn, he.1, he.2.1, he.2.2⟩, h4, ⟨d, h2, h3⟩, fun ks hk => ⟨eqKs_guard 8 t ks (h5 ks hk).1 _ h6, fun W xs ys hx hy => ?_⟩⟩
  exact eqKs_run 8 t ks (h5 ks hk).1 (h5 ks hk).2 10000 (by omega) W xs ys hx hy
end
end Go.Fw
namespace Go.Fw
open Go
def bnd' (x : Option Value) (k : Value → Prop) : Prop := match x with | some v => k v | none => False
def bndH (x : Option Heap) (k : Heap → Prop) : Prop := match x with | some H => k H | none => False
def bndVH (x : Option (Value × Heap)) (k : Value → Heap → Prop) : Prop := match x with | some (v, H) => k v H | none => False
def bndB (x : Value) (k : Bool → Prop) : Prop := match x with | .bool b => k b | _ => False
theorem bndB_bool {b : Bool} {k : Bool → Prop} : bndB (.bool b) k = k b := rfl
section
variable {tt : TT} {S : ACall} {q : Nat} {ops : Array Oper} {K : Slots → Heap → Prop} {Q : APost} {s : Slots} {H : Heap}
variable {dst : Option Tmp} {ty : TypeId} {pos : String} {af : Array Edge} {l : List Oper}
def AxV (tt : TT) (S : ACall) (q : Nat) (ops : Array Oper) (K : Slots → Heap → Prop) (l : List Oper) (s : Slots) (d : Option Tmp) (H : Heap) (x : Option Value) : Prop := match x with | some v => AxL tt S q ops K l (s.put d v) H | none => False
def AxW (tt : TT) (S : ACall) (q : Nat) (ops : Array Oper) (K : Slots → Heap → Prop) (l : List Oper) (s : Slots) (d : Option Tmp) (x : Option (Value × Heap)) : Prop := match x with | some (v, H) => AxL tt S q ops K l (s.put d v) H | none => False
def AxH (tt : TT) (S : ACall) (q : Nat) (ops : Array Oper) (K : Slots → Heap → Prop) (l : List Oper) (s : Slots) (d : Option Tmp) (x : Option Heap) : Prop := match x with | some H => AxL tt S q ops K l (s.put d undef) H | none => False
def AxP (tt : TT) (S : ACall) (q : Nat) (ops : Array Oper) (K : Slots → Heap → Prop) (l : List Oper) (s : Slots) (d : Option Tmp) (H : Heap) (c x y : Value) : Prop := match c with | .bool t => AxL tt S q ops K l (s.put d (if t = true then x else y)) H | _ => False
def AxG (tt : TT) (S : ACall) (q : Nat) (ops : Array Oper) (K : Slots → Heap → Prop) (o : Oper) (l : List Oper) (s : Slots) (d : Option Tmp) (H : Heap) (x : Option Bool) (w : Bool) : Prop := if x = some w then AxL tt S q ops K (o :: l) s H else AxL tt S q ops K l (s.put d undef) H
theorem axV_some {d : Option Tmp} {v : Value} : AxV tt S q ops K l s d H (some v) = AxL tt S q ops K l (s.put d v) H := rfl
theorem axW_some {d : Option Tmp} {v : Value} : AxW tt S q ops K l s d (some (v, H)) = AxL tt S q ops K l (s.put d v) H := rfl
theorem axH_some {d : Option Tmp} : AxH tt S q ops K l s d (some H) = AxL tt S q ops K l (s.put d undef) H := rfl
theorem axP_bool {d : Option Tmp} {b : Bool} {x y : Value} : AxP tt S q ops K l s d H (.bool b) x y = AxL tt S q ops K l (s.put d (if b = true then x else y)) H := rfl
theorem axG_tt {d : Option Tmp} {o : Oper} : AxG tt S q ops K o l s d H (some true) true = AxL tt S q ops K (o :: l) s H := by simp [AxG]
theorem axG_tf {d : Option Tmp} {o : Oper} : AxG tt S q ops K o l s d H (some true) false = AxL tt S q ops K l (s.put d undef) H := by simp [AxG]
theorem axG_ft {d : Option Tmp} {o : Oper} : AxG tt S q ops K o l s d H (some false) true = AxL tt S q ops K l (s.put d undef) H := by simp [AxG]
theorem axG_n {d : Option Tmp} {o : Oper} {w : Bool} : AxG tt S q ops K o l s d H none w = AxL tt S q ops K l (s.put d undef) H := by simp [AxG]
theorem undef_eq : (undef : Value) = .tuple #[] := rfl
theorem axG_ff {d : Option Tmp} {o : Oper} : AxG tt S q ops K o l s d H (some false) false = AxL tt S q ops K (o :: l) s H := by simp [AxG]
theorem opThen_map {op : Op} {x : Option Value} (h : aop tt op (ev s) H = x.map (fun v => (v, H))) : opThen tt op s H (fun v H' => AxL tt S q ops K l (s.put dst v) H') = AxV tt S q ops K l s dst H x := by
  unfold opThen AxV; rw [h]; cases x <;> rfl
theorem wl_nil : AxL tt S q ops K [] s H = K s H := rfl
theorem wl_move {x : Operand} : AxL tt S q ops K (⟨dst, .move x, ty, pos, af, none⟩ :: l) s H = AxL tt S q ops K l (s.put dst (ev s x)) H := AxL_op (by simp [clsOf])
theorem wl_assign {x : Operand} : AxL tt S q ops K (⟨dst, .assign x, ty, pos, af, none⟩ :: l) s H = AxL tt S q ops K l (s.put dst (ev s x)) H := AxL_op (by simp [clsOf])
theorem wl_pick {c x y : Operand} : AxL tt S q ops K (⟨dst, .pick c x y, ty, pos, af, none⟩ :: l) s H = AxP tt S q ops K l s dst H (ev s c) (ev s x) (ev s y) := by
  rw [AxL_op (by simp [clsOf])]
  have e : aop tt (.pick c x y) (ev s) H = (match ev s c with | .bool t => some (if t then ev s x else ev s y, H) | _ => none) := rfl
  unfold opThen
  rw [e]; unfold AxP
  generalize ev s c = z
  cases z <;> rfl
theorem wl_alloc {t : TypeId} : AxL tt S q ops K (⟨dst, .alloc t, ty, pos, af, none⟩ :: l) s H = AxW tt S q ops K l s dst (match tt t with | some T => some (newPtr H, H ++ [mkBlk tt t T.zero.cells.toList]) | none => none) := by
  rw [AxL_op (by simp [clsOf])]
  have e : aop tt (.alloc t) (ev s) H = (match tt t with | some T => some (newPtr H, H ++ [mkBlk tt t T.zero.cells.toList]) | none => none) := rfl
  unfold opThen
  rw [e]; cases tt t <;> rfl
theorem wl_box {t : TypeId} {x : Operand} : AxL tt S q ops K (⟨dst, .box t x, ty, pos, af, none⟩ :: l) s H = AxL tt S q ops K l (s.put dst (newPtr H)) (H ++ [mkBlk tt t (ev s x).cells.toList]) := AxL_op (by simp [clsOf])
theorem wl_build {t : TypeId} {ps : Array (Nat × Operand)} : AxL tt S q ops K (⟨dst, .build t ps, ty, pos, af, none⟩ :: l) s H = AxV tt S q ops K l s dst H (aBuild tt t (parts' (ev s) ps)) := by
  rw [AxL_op (by simp [clsOf])]; exact opThen_map rfl
theorem wl_buildSlice {t : TypeId} {n : Nat} {ps : Array (Nat × Operand)} : AxL tt S q ops K (⟨dst, .buildSlice t n ps, ty, pos, af, none⟩ :: l) s H = AxW tt S q ops K l s dst (aBuildSlice tt H t n (parts' (ev s) ps)) := by
  rw [AxL_op (by simp [clsOf])]; unfold opThen AxW; rfl
theorem wl_load {t : TypeId} {x : Operand} : AxL tt S q ops K (⟨dst, .load t x, ty, pos, af, none⟩ :: l) s H = AxV tt S q ops K l s dst H (aLoad tt H t (ev s x)) := by
  rw [AxL_op (by simp [clsOf])]; exact opThen_map rfl
theorem wl_store {t : TypeId} {x y : Operand} : AxL tt S q ops K (⟨dst, .store t x y, ty, pos, af, none⟩ :: l) s H = AxH tt S q ops K l s dst (aStore tt H t (ev s x) (ev s y)) := by
  rw [AxL_op (by simp [clsOf])]
  have e : aop tt (.store t x y) (ev s) H = (aStore tt H t (ev s x) (ev s y)).map (fun H' => (undef, H')) := rfl
  unfold opThen
  rw [e]; unfold AxH; cases aStore tt H t (ev s x) (ev s y) <;> rfl
theorem wl_nilCheck {x : Operand} : AxL tt S q ops K (⟨dst, .nilCheck x, ty, pos, af, none⟩ :: l) s H = AxW tt S q ops K l s dst (match ev s x with | .pointer (some a) => some (.pointer (some a), H) | .func (.func f) x y => some (.func (.func f) x y, H) | _ => none) := by
  rw [AxL_op (by simp [clsOf])]; rfl
theorem wl_binOp {op : BinOp} {t u : TypeId} {x y : Operand} : AxL tt S q ops K (⟨dst, .binOp op t x y u, ty, pos, af, none⟩ :: l) s H = AxV tt S q ops K l s dst H (aBin tt op t (ev s x) (ev s y)) := by
  rw [AxL_op (by simp [clsOf])]; exact opThen_map rfl
theorem wl_unOp {op : UnOp} {t : TypeId} {x : Operand} : AxL tt S q ops K (⟨dst, .unOp op t x, ty, pos, af, none⟩ :: l) s H = AxV tt S q ops K l s dst H (aUn op (ev s x)) := by
  rw [AxL_op (by simp [clsOf])]; exact opThen_map rfl
theorem wl_convert {a b : TypeId} {x : Operand} : AxL tt S q ops K (⟨dst, .convert a b x, ty, pos, af, none⟩ :: l) s H = AxV tt S q ops K l s dst H (aConv tt H a b (ev s x)) := by
  rw [AxL_op (by simp [clsOf])]; exact opThen_map rfl
theorem wl_makeFunc {f : FuncId} {x y : Array Operand} : AxL tt S q ops K (⟨dst, .makeFunc (.func f) x y, ty, pos, af, none⟩ :: l) s H = AxL tt S q ops K l (s.put dst (.func (.func f) (x.map (ev s)) (y.map (ev s)))) H := AxL_op (by simp [clsOf])
theorem wl_makeSlice {t : TypeId} {x y : Operand} : AxL tt S q ops K (⟨dst, .makeSlice t x y, ty, pos, af, none⟩ :: l) s H = AxW tt S q ops K l s dst (aMakeSlice tt H t (ev s x) (ev s y)) := by
  rw [AxL_op (by simp [clsOf])]; rfl
theorem wl_slice {t : TypeId} {x : Operand} {a b c : Option Operand} : AxL tt S q ops K (⟨dst, .slice t x a b c, ty, pos, af, none⟩ :: l) s H = AxV tt S q ops K l s dst H (aSlice tt H t (ev s x) (a.map (ev s)) (b.map (ev s)) (c.map (ev s))) := by
  rw [AxL_op (by simp [clsOf])]; exact opThen_map rfl
theorem wl_fieldAddr {t : TypeId} {x : Operand} {f : Nat} : AxL tt S q ops K (⟨dst, .fieldAddr t x f, ty, pos, af, none⟩ :: l) s H = AxV tt S q ops K l s dst H (aFieldAddr tt t (ev s x) f) := by
  rw [AxL_op (by simp [clsOf])]; exact opThen_map rfl
theorem wl_field {t : TypeId} {x : Operand} {f : Nat} : AxL tt S q ops K (⟨dst, .field t x f, ty, pos, af, none⟩ :: l) s H = AxV tt S q ops K l s dst H (aField tt t (ev s x) f) := by
  rw [AxL_op (by simp [clsOf])]; exact opThen_map rfl
theorem wl_indexAddr {t : TypeId} {x y : Operand} : AxL tt S q ops K (⟨dst, .indexAddr t x y, ty, pos, af, none⟩ :: l) s H = AxV tt S q ops K l s dst H (aIndexAddr tt t (ev s x) (ev s y)) := by
  rw [AxL_op (by simp [clsOf])]; exact opThen_map rfl
theorem wl_index {t : TypeId} {x y : Operand} : AxL tt S q ops K (⟨dst, .index t x y, ty, pos, af, none⟩ :: l) s H = AxV tt S q ops K l s dst H (aIndex tt t (ev s x) (ev s y)) := by
  rw [AxL_op (by simp [clsOf])]; exact opThen_map rfl
def exT (x : Value) (i : Nat) : Option Value := match x with | .tuple vs => vs[i]? | _ => none
theorem wl_extract {x : Operand} {i : Nat} : AxL tt S q ops K (⟨dst, .extract x i, ty, pos, af, none⟩ :: l) s H = AxV tt S q ops K l s dst H (exT (ev s x) i) := by
  rw [AxL_op (by simp [clsOf])]
  refine opThen_map ?_
  have e : aop tt (.extract x i) (ev s) H = (match ev s x with | .tuple vs => (vs[i]?).map (fun v => (v, H)) | _ => none) := rfl
  rw [e]; unfold exT
  generalize ev s x = z
  cases z <;> rfl
theorem wl_len {x : Operand} {tys : Array TypeId} : AxL tt S q ops K (⟨dst, .call { callee := .builtin .len, args := #[x], argTypes := tys }, ty, pos, af, none⟩ :: l) s H = AxV tt S q ops K l s dst H (aLen tt tys.toList (ev s x)) := by
  rw [AxL_op (by simp [clsOf])]; exact opThen_map rfl
theorem wl_builtin {b : Builtin} {as : Array Operand} {tys : Array TypeId} : AxL tt S q ops K (⟨dst, .call { callee := .builtin b, args := as, argTypes := tys }, ty, pos, af, none⟩ :: l) s H = AxW tt S q ops K l s dst (aBuiltin tt H b tys.toList (as.toList.map (ev s))) := by
  rw [AxL_op (by cases b <;> simp [clsOf])]; rfl
theorem wl_guard {op : Op} {g : Nat} {w : Bool} : AxL tt S q ops K (⟨dst, op, ty, pos, af, some (g, w)⟩ :: l) s H = AxG tt S q ops K ⟨dst, op, ty, pos, af, none⟩ l s dst H (yieldA ops s g) w := by
  unfold AxG
  have hw : wantedA ops s ⟨dst, op, ty, pos, af, some (g, w)⟩ = true ↔ yieldA ops s g = some w := by simp [wantedA, Region.wanted]
  have hn : wantedA ops s ⟨dst, op, ty, pos, af, none⟩ = true := rfl
  simp only [AxL, AOp, hw, hn]
  by_cases h : yieldA ops s g = some w
  · simp only [h, if_true]; rfl
  · simp only [h, if_false]
    apply propext
    constructor
    · rintro ⟨s', H', ⟨rfl, rfl⟩, k⟩; exact k
    · intro k; exact ⟨_, _, ⟨rfl, rfl⟩, k⟩
end
end Go.Fw
namespace Go.Fw
open Go
section
variable {b : Bool} {k : IntKind} {n c : Nat} {z : Int} {t : ByteArray} {a : Option Addr} {cs x y : Array Value} {f : Fn}
theorem cells_bool : (Value.bool b).cells = #[.bool b] := rfl
theorem cells_int : (Value.int k z).cells = #[.int k z] := rfl
theorem cells_string : (Value.string t).cells = #[.string t] := rfl
theorem cells_pointer : (Value.pointer a).cells = #[.pointer a] := rfl
theorem cells_slice : (Value.slice a n c).cells = #[.slice a n c] := rfl
theorem cells_func : (Value.func f x y).cells = #[.func f x y] := rfl
theorem cells_agg : (Value.agg cs).cells = cs := rfl
theorem cell_bool : isCell (Value.bool b) = true := rfl
theorem cell_int : isCell (Value.int k z) = true := rfl
theorem cell_string : isCell (Value.string t) = true := rfl
theorem cell_pointer : isCell (Value.pointer a) = true := rfl
theorem cell_slice : isCell (Value.slice a n c) = true := rfl
theorem cell_func : isCell (Value.func f x y) = true := rfl
theorem exT_tuple {vs : Array Value} {i : Nat} : exT (.tuple vs) i = vs[i]? := rfl
end
def ptr (b i : Nat) : Value := .pointer (some ⟨b, i, none⟩)
theorem newPtr_at (H L : Heap) : newPtr (H ++ L) = .pointer (some ⟨H.length + L.length, 0, none⟩) := by simp [newPtr]
theorem newPtr_0 (H : Heap) : newPtr H = .pointer (some ⟨H.length + 0, 0, none⟩) := rfl
theorem rd_app (H L : Heap) (j i n : Nat) : rd (H ++ L) (H.length + j) i n = rd L j i n := by simp only [rd, hp_get]
theorem wr_app (H L : Heap) (j i : Nat) (vs : List Value) : wr (H ++ L) (H.length + j) i vs = (wr L j i vs).map (H ++ ·) := by
  simp only [wr, hp_get]
  cases L[j]? with
  | none => rfl
  | some B => simp only; split <;> simp [hp_set]
theorem rd_app0 (H L : Heap) (i n : Nat) : rd (H ++ L) H.length i n = rd L 0 i n := rd_app H L 0 i n
theorem wr_app0 (H L : Heap) (i : Nat) (vs : List Value) : wr (H ++ L) H.length i vs = (wr L 0 i vs).map (H ++ ·) := wr_app H L 0 i vs
def allC : List Value → Bool | [] => true | v :: l => isCell v && allC l
theorem allC_nil : allC [] = true := rfl
theorem allC_cons (v : Value) (l : List Value) : allC (v :: l) = (isCell v && allC l) := rfl
theorem allC_eq (l : List Value) : l.all isCell = allC l := by induction l with | nil => rfl | cons v l ih => simp only [List.all_cons, allC, ih]
theorem wr_eq (H : Heap) (b i : Nat) (vs : List Value) : wr H b i vs = match H[b]? with
  | some B => if B.own = true ∧ i + vs.length ≤ B.cells.length ∧ allC vs = true then some (H.set b ⟨splice B.cells i vs, B.esz, B.own⟩) else none
  | none => none := by unfold wr; simp only [allC_eq]; cases H[b]? <;> rfl
theorem rd_zero (c : Value) (cs : List Value) (e : Nat) (o : Bool) (L : Heap) (i n : Nat) : rd (⟨c :: cs, e, o⟩ :: L) 0 i n = if 0 < e ∧ i + n ≤ cs.length + 1 then some (((c :: cs).drop i).take n) else none := rfl
theorem rd_succ (B : Blk) (L : Heap) (j i n : Nat) : rd (B :: L) (j + 1) i n = rd L j i n := by simp only [rd, List.getElem?_cons_succ]
theorem wr_zero (c : Value) (cs : List Value) (e : Nat) (o : Bool) (L : Heap) (i : Nat) (vs : List Value) : wr (⟨c :: cs, e, o⟩ :: L) 0 i vs = if o = true ∧ i + vs.length ≤ cs.length + 1 ∧ allC vs = true then some (⟨splice (c :: cs) i vs, e, o⟩ :: L) else none := by
  rw [wr_eq]; rfl
theorem wr_succ (B : Blk) (L : Heap) (j i : Nat) (vs : List Value) : wr (B :: L) (j + 1) i vs = (wr L j i vs).map (B :: ·) := by
  simp only [wr, List.getElem?_cons_succ]
  cases L[j]? with
  | none => rfl
  | some B => simp only; split <;> simp
theorem ini_0 (a : Value) (l : List Value) : ini ⟨a :: l⟩ 0 = a := by simp [ini]
theorem ini_s (a : Value) (l : List Value) (n : Nat) : ini ⟨a :: l⟩ (n + 1) = ini ⟨l⟩ n := by simp [ini]
section
variable {tt : TT} {S : ACall} {q : Nat} {ops : Array Oper} {K : Slots → Heap → Prop} {s : Slots} {H : Heap}
variable {dst : Option Tmp} {ty : TypeId} {pos : String} {af : Array Edge} {l : List Oper}
theorem wl_append {x y : Operand} {tys : Array TypeId} : AxL tt S q ops K (⟨dst, .call { callee := .builtin .append, args := #[x, y], argTypes := tys }, ty, pos, af, none⟩ :: l) s H = AxW tt S q ops K l s dst (aAppend tt H tys.toList (ev s x) (ev s y)) := wl_builtin
theorem wl_max {x y : Operand} {tys : Array TypeId} : AxL tt S q ops K (⟨dst, .call { callee := .builtin .max, args := #[x, y], argTypes := tys }, ty, pos, af, none⟩ :: l) s H = AxW tt S q ops K l s dst (aBuiltin tt H .max tys.toList [ev s x, ev s y]) := wl_builtin
theorem wl_call {f : Operand} {args : Array Operand} {tys : Array TypeId} {g : FuncId} {first cap : Array Value} {v : Value} {H' : Heap} (hf : ev s f = .func (.func g) first cap) (hS : S (.func g) (first ++ args.map (ev s) ++ cap) H v H') (hq : lq q dst = true → ∃ G, H' = H ++ G)
    (k : AxL tt S q ops K l (s.put dst v) H') : AxL tt S q ops K (⟨dst, .call { callee := .value f, args := args, argTypes := tys }, ty, pos, af, none⟩ :: l) s H :=
  axl_call rfl rfl hf hS hq k
theorem wl_callF {args : Array Operand} {tys : Array TypeId} {g : FuncId} {v : Value} {H' : Heap} (as : Array Value) (ha : args.map (ev s) = as) (hS : S (.func g) as H v H') (hq : lq q dst = true → ∃ G, H' = H ++ G)
    (k : AxL tt S q ops K l (s.put dst v) H') : AxL tt S q ops K (⟨dst, .call { callee := .value (.func g), args := args, argTypes := tys }, ty, pos, af, none⟩ :: l) s H :=
  wl_call (first := #[]) (cap := #[]) rfl (by rw [ha]; simpa using hS) hq k
end
end Go.Fw
namespace Go.Fw
open Go
theorem axI_to_axL {tt : TT} {S : ACall} {q : Nat} {ops : Array Oper} {K : Slots → Heap → Prop} : ∀ (n k : Nat) (s : Slots) (H : Heap), k + n = ops.size → AxI tt S q ops K (List.range' k n) s H → AxL tt S q ops K (ops.toList.drop k) s H := by
  intro n
  induction n with
  | zero =>
    intro k s H hk h
    rw [List.drop_of_length_le (by simp; omega)]
    exact h
  | succ n ih =>
    intro k s H hk h
    have hlt : k < ops.size := by omega
    rw [List.drop_eq_getElem_cons (by simpa using hlt)]
    rw [List.range'_succ] at h
    unfold AxI at h
    rw [Array.getElem?_eq_getElem hlt] at h
    obtain ⟨s', H', h1, h2⟩ := h
    exact ⟨s', H', by simpa using h1, ih (k + 1) s' H' (by omega) h2⟩
section
variable {tt : TT} {S : ACall} {Q : APost} {s : Slots} {H : Heap}
theorem wa_region {id : Nat} {ops : Array Oper} : Ax tt S (.region id ops false) Q s H = AxL tt S 0 ops (Q .normal) ops.toList s H := by
  show AxReg tt S ops false (Q .normal) s H = _
  unfold AxReg
  simp only [Bool.false_eq_true, if_false]
  apply propext
  constructor
  · intro h
    rw [List.range_eq_range'] at h
    simpa using axI_to_axL ops.size 0 s H (by omega) h
  · exact axI_list
theorem wa_seq {a b : Code} : Ax tt S (.seq a b) Q s H = Ax tt S a (AEx.thn (Ax tt S b Q) Q) s H := rfl
theorem wa_skip : Ax tt S .skip Q s H = Q .normal s H := rfl
theorem wa_block {id : Nat} {b : Code} : Ax tt S (.block id b) Q s H = Ax tt S b (AEx.inBlock id Q) s H := rfl
theorem wa_exit {id : Nat} : Ax tt S (.exit id) Q s H = Q (.exit id) s H := rfl
theorem wa_ret : Ax tt S .ret Q s H = Q .ret s H := rfl
theorem ax_cond2 {c : Operand} {x y : Code} (h : bndB (ev s c) (fun b => (b = true → Ax tt S x Q s H) ∧ (b = false → Ax tt S y Q s H))) : Ax tt S (.cond c x y) Q s H := by
  unfold bndB at h
  split at h
  · rename_i b hb
    refine ⟨b, hb, ?_⟩
    cases b with
    | true => exact h.1 rfl
    | false => exact h.2 rfl
  · exact h.elim
theorem ax_loopx {α : Type} {b : Code} (I : α → Slots → Heap → Prop) (μ : α → Nat) (a0 : α) (h0 : I a0 s H)
    (round : ∀ a s H, I a s H → Ax tt S b (AEx.thn (fun s' H' => ∃ a', I a' s' H' ∧ μ a' < μ a) Q) s H) : Ax tt S (.loop b) Q s H := by
  have key : ∀ n a s H, μ a < n → I a s H → AxLoop (Ax tt S b) Q n s H := by
    intro n
    induction n with
    | zero => intro a s H hm; omega
    | succ n ih =>
      intro a s H hm hI
      refine Ax_mono b (round a s H hI) ?_
      intro e s' H' h
      cases e with
      | normal => obtain ⟨a', h1, h2⟩ := h; exact ih a' s' H' (by omega) h1
      | exit id => exact h
      | ret => exact h
  exact ⟨μ a0 + 1, key _ a0 s H (Nat.lt_succ_self _) h0⟩
theorem ax_mid (M : Slots → Heap → Prop) {a : Code} {K : Slots → Heap → Prop} (h1 : Ax tt S a (AEx.thn M Q) s H) (h2 : ∀ s H, M s H → K s H) : Ax tt S a (AEx.thn K Q) s H := by
  refine Ax_mono a h1 ?_
  intro e s H h
  cases e with
  | normal => exact h2 s H h
  | exit id => exact h
  | ret => exact h
end
def andI (k : IntKind) (x y : Int) : Int := k.wrap (BitVec.ofInt k.bits x &&& BitVec.ofInt k.bits y).toNat
def orI (k : IntKind) (x y : Int) : Int := k.wrap (BitVec.ofInt k.bits x ||| BitVec.ofInt k.bits y).toNat
def xorI (k : IntKind) (x y : Int) : Int := k.wrap (BitVec.ofInt k.bits x ^^^ BitVec.ofInt k.bits y).toNat
section
variable {tt : TT} {t : TypeId} {k k' : IntKind} {x y : Int} {a b : ByteArray} {p q : Bool}
theorem bin_add : aBin tt .add t (.int k x) (.int k y) = some (.int k (k.wrap (x + y))) := by simp [aBin, aInt]
theorem bin_sub : aBin tt .sub t (.int k x) (.int k y) = some (.int k (k.wrap (x - y))) := by simp [aBin, aInt]
theorem bin_mul : aBin tt .mul t (.int k x) (.int k y) = some (.int k (k.wrap (x * y))) := by simp [aBin, aInt]
theorem bin_quo : aBin tt .quo t (.int k x) (.int k y) = if y = 0 then none else some (.int k (k.wrap (x.tdiv y))) := by simp [aBin, aInt]
theorem bin_rem : aBin tt .rem t (.int k x) (.int k y) = if y = 0 then none else some (.int k (x.tmod y)) := by simp [aBin, aInt]
theorem bin_shl : aBin tt .shl t (.int k x) (.int k' y) = if y < 0 then none else some (.int k (k.wrap (x * 2 ^ (min y.toNat k.bits)))) := by simp [aBin, aInt, isShift]
theorem bin_shr : aBin tt .shr t (.int k x) (.int k' y) = if y < 0 then none else some (.int k (x.fdiv (2 ^ (min y.toNat k.bits)))) := by simp [aBin, aInt, isShift]
theorem bin_and : aBin tt .and t (.int k x) (.int k y) = some (.int k (andI k x y)) := by simp [aBin, aInt, aBits, andI]
theorem bin_or : aBin tt .or t (.int k x) (.int k y) = some (.int k (orI k x y)) := by simp [aBin, aInt, aBits, orI]
theorem bin_xor : aBin tt .xor t (.int k x) (.int k y) = some (.int k (xorI k x y)) := by simp [aBin, aInt, aBits, xorI]
theorem bin_eql : aBin tt .eql t (.int k x) (.int k y) = some (.bool (decide (x = y))) := by simp [aBin, aInt, aCmp]; rfl
theorem bin_neq : aBin tt .neq t (.int k x) (.int k y) = some (.bool (decide (x ≠ y))) := by simp [aBin, aInt, aCmp]; rfl
theorem bin_lss : aBin tt .lss t (.int k x) (.int k y) = some (.bool (decide (x < y))) := by simp [aBin, aInt, aCmp]
theorem bin_leq : aBin tt .leq t (.int k x) (.int k y) = some (.bool (decide (x ≤ y))) := by simp [aBin, aInt, aCmp]
theorem bin_gtr : aBin tt .gtr t (.int k x) (.int k y) = some (.bool (decide (y < x))) := by simp [aBin, aInt, aCmp]
theorem bin_geq : aBin tt .geq t (.int k x) (.int k y) = some (.bool (decide (y ≤ x))) := by simp [aBin, aInt, aCmp]
theorem beq_ba (a b : ByteArray) : (a.toList == b.toList) = decide (a = b) := by
  have e : a.toList = b.toList ↔ a = b := by
    constructor
    · intro h
      have h2 : ∀ x : ByteArray, x.toList = x.data.toList := fun x => Go.ByteArray.toList_eq x
      rw [h2, h2] at h
      cases a; cases b; simp at h; exact congrArg _ h
    · rintro rfl; rfl
  by_cases h : a = b <;> simp [h, e]
theorem bin_seql : aBin tt .eql t (.string a) (.string b) = some (.bool (decide (a = b))) := by simp only [aBin, aStr, beq_ba]
theorem bin_sneq : aBin tt .neq t (.string a) (.string b) = some (.bool (decide (a ≠ b))) := by simp only [aBin, aStr, beq_ba]; simp
theorem un_not : aUn .not (.bool p) = some (.bool !p) := rfl
theorem un_neg : aUn .neg (.int k x) = some (.int k (k.wrap (0 - x))) := rfl
end
theorem w64 {n : Int} (h1 : -9223372036854775808 ≤ n) (h2 : n ≤ 9223372036854775807) : IntKind.i64.wrap n = n := IntWalk.i64_in n ⟨h1, h2⟩
theorem wu64 {n : Int} (h1 : 0 ≤ n) (h2 : n ≤ 18446744073709551615) : IntKind.u64.wrap n = n := IntWalk.u64_in n ⟨h1, h2⟩
theorem wu32 {n : Int} (h1 : 0 ≤ n) (h2 : n ≤ 4294967295) : IntKind.u32.wrap n = n := IntWalk.u32_in n ⟨h1, h2⟩
theorem wu8 {n : Int} (h1 : 0 ≤ n) (h2 : n ≤ 255) : IntKind.u8.wrap n = n := IntWalk.u8_in n ⟨h1, h2⟩
def bndL (x : Option (List Value)) (k : List Value → Prop) : Prop := match x with | some v => k v | none => False
theorem bndL_some {v : List Value} {k : List Value → Prop} : bndL (some v) k = k v := rfl
theorem ret_eq {tt : TT} {fn : Func} {R : List Value → Heap → Prop} {s : Slots} {H : Heap} : retP tt fn R .ret s H = bndL (resL tt s H fn.results.toList) (fun vs => R vs H) := by
  unfold retP bndL
  apply propext
  cases resL tt s H fn.results.toList <;> simp
theorem resV_one {v : Value} : resV [v] = v := rfl
theorem resV_two {v w : Value} : resV [v, w] = .tuple #[v, w] := rfl
theorem resV_three {v w x : Value} : resV [v, w, x] = .tuple #[v, w, x] := rfl
theorem cast0 : ((0 : Nat) : Int) = 0 := rfl
theorem cast1 : ((1 : Nat) : Int) = 1 := rfl
theorem castS {n : Nat} : ((n + 1 : Nat) : Int) - 1 = (n : Nat) := by omega
theorem bits_u8 : IntKind.u8.bits = 8 := rfl
theorem bits_u32 : IntKind.u32.bits = 32 := rfl
theorem bits_u64 : IntKind.u64.bits = 64 := rfl
theorem bits_i64 : IntKind.i64.bits = 64 := rfl
theorem tdiv_nat (a b : Nat) : ((a : Int)).tdiv (b : Int) = ((a / b : Nat) : Int) := rfl
theorem tmod_nat (a b : Nat) : ((a : Int)).tmod (b : Int) = ((a % b : Nat) : Int) := rfl
theorem ofInt_nat {w n : Nat} (h : n < 2 ^ w) : (BitVec.ofInt w (n : Int)).toNat = n := by
  rw [BitVec.ofInt_natCast, BitVec.toNat_ofNat, Nat.mod_eq_of_lt h]
theorem or_nat {w a b : Nat} (ha : a < 2 ^ w) (hb : b < 2 ^ w) : (BitVec.ofInt w (a : Int) ||| BitVec.ofInt w (b : Int)).toNat = a ||| b := by
  rw [BitVec.toNat_or, ofInt_nat ha, ofInt_nat hb]
theorem or_add {a c k : Nat} (ha : a < 2 ^ k) : a ||| (c * 2 ^ k) = a + c * 2 ^ k := by
  have := Nat.shiftLeft_add_eq_or_of_lt ha c
  rw [Nat.shiftLeft_eq] at this
  rw [Nat.or_comm, ← this, Nat.add_comm]
theorem or_u32 {a b : Nat} (ha : a < 2 ^ 32) (hb : b < 2 ^ 32) : orI .u32 (a : Int) (b : Int) = ((a ||| b : Nat) : Int) := by
  unfold orI
  rw [show IntKind.u32.bits = 32 from rfl, or_nat ha hb]
  have := Nat.or_lt_two_pow ha hb
  exact wu32 (by omega) (by omega)
theorem or_u64 {a b : Nat} (ha : a < 2 ^ 64) (hb : b < 2 ^ 64) : orI .u64 (a : Int) (b : Int) = ((a ||| b : Nat) : Int) := by
  unfold orI
  rw [show IntKind.u64.bits = 64 from rfl, or_nat ha hb]
  have := Nat.or_lt_two_pow ha hb
  exact wu64 (by omega) (by omega)
theorem or_i64 {a b : Nat} (ha : a < 2 ^ 63) (hb : b < 2 ^ 63) : orI .i64 (a : Int) (b : Int) = ((a ||| b : Nat) : Int) := by
  unfold orI
  rw [show IntKind.i64.bits = 64 from rfl, or_nat (by omega) (by omega)]
  have := Nat.or_lt_two_pow ha hb
  exact w64 (by omega) (by omega)
theorem low_u8 (x : Nat) : IntKind.u8.wrap (x : Int) = ((UInt8.ofNat x).toNat : Int) := by
  rw [IntKind.wrap_u8]; simp
theorem min_lit24 : min 24 32 = 24 := rfl
theorem min_lit16 : min 16 32 = 16 := rfl
theorem min_lit8 : min 8 32 = 8 := rfl
theorem fdiv_pow (x : Nat) (k : Nat) : ((x : Int)).fdiv (2 ^ k) = ((x / 2 ^ k : Nat) : Int) := by
  rw [Int.fdiv_eq_ediv_of_nonneg _ (Int.pow_nonneg (by decide))]
  norm_cast
theorem min_lit32 : min 32 64 = 32 := rfl
theorem low_u32 (x : Nat) : IntKind.u32.wrap (x : Int) = ((x % 4294967296 : Nat) : Int) := by
  rw [IntKind.wrap_u32]; simp
theorem addc (a b : Nat) : (a : Int) + (b : Int) = ((a + b : Nat) : Int) := by omega
theorem mulc (a b : Nat) : (a : Int) * (b : Int) = ((a * b : Nat) : Int) := by simp
theorem wu64n {n : Nat} (h : n < 18446744073709551616) : IntKind.u64.wrap (n : Int) = (n : Int) := wu64 (by omega) (by omega)
theorem wu32n {n : Nat} (h : n < 4294967296) : IntKind.u32.wrap (n : Int) = (n : Int) := wu32 (by omega) (by omega)
theorem w64n {n : Nat} (h : n < 9223372036854775808) : IntKind.i64.wrap (n : Int) = (n : Int) := w64 (by omega) (by omega)
theorem and_nat {w a b : Nat} (ha : a < 2 ^ w) (hb : b < 2 ^ w) : (BitVec.ofInt w (a : Int) &&& BitVec.ofInt w (b : Int)).toNat = a &&& b := by
  rw [BitVec.toNat_and, ofInt_nat ha, ofInt_nat hb]
theorem xor_nat {w a b : Nat} (ha : a < 2 ^ w) (hb : b < 2 ^ w) : (BitVec.ofInt w (a : Int) ^^^ BitVec.ofInt w (b : Int)).toNat = a ^^^ b := by
  rw [BitVec.toNat_xor, ofInt_nat ha, ofInt_nat hb]
theorem and_u32 {a b : Nat} (ha : a < 2 ^ 32) (hb : b < 2 ^ 32) : andI .u32 (a : Int) (b : Int) = ((a &&& b : Nat) : Int) := by
  unfold andI
  rw [show IntKind.u32.bits = 32 from rfl, and_nat ha hb]
  have := Nat.and_lt_two_pow a hb
  exact wu32 (by omega) (by omega)
theorem xor_u32 {a b : Nat} (ha : a < 2 ^ 32) (hb : b < 2 ^ 32) : xorI .u32 (a : Int) (b : Int) = ((a ^^^ b : Nat) : Int) := by
  unfold xorI
  rw [show IntKind.u32.bits = 32 from rfl, xor_nat ha hb]
  have := Nat.xor_lt_two_pow ha hb
  exact wu32 (by omega) (by omega)
theorem un_xor_u32 {x : Int} : aUn .xor (.int .u32 x) = some (.int .u32 (xorI .u32 ((4294967295 : Nat) : Int) x)) := by
  have e : (if IntKind.u32.signed = true then (-1 : Int) else IntKind.u32.max) = ((4294967295 : Nat) : Int) := by decide
  unfold aUn aBits xorI
  simp only [e]
theorem borrow_bit {x y b d : Nat} (hx : x < 2 ^ 32) (hy : y < 2 ^ 32) (hb : b ≤ 1) (hd : d = (x + 4294967296 - y + 4294967296 - b) % 4294967296) :
    ((((4294967295 ^^^ x) &&& y) ||| ((4294967295 ^^^ (x ^^^ y)) &&& d)) / 2 ^ 31) = if x < y + b then 1 else 0 := by
  have hdlt : d < 2 ^ 32 := by omega
  generalize hr : (((4294967295 ^^^ x) &&& y) ||| ((4294967295 ^^^ (x ^^^ y)) &&& d)) = r
  have hrlt : r < 2 ^ 32 := by
    rw [← hr]
    exact Nat.or_lt_two_pow (Nat.and_lt_two_pow _ hy) (Nat.and_lt_two_pow _ hdlt)
  have top : ∀ {z : Nat}, z < 2 ^ 32 → (z.testBit 31).toNat = z / 2 ^ 31 := by
    intro z hz
    rw [Nat.toNat_testBit]; omega
  have h1 : (4294967295 : Nat).testBit 31 = true := by decide
  have e : r.testBit 31 = ((!x.testBit 31 && y.testBit 31) || (!(x.testBit 31 ^^ y.testBit 31) && d.testBit 31)) := by
    rw [← hr, Nat.testBit_or, Nat.testBit_and, Nat.testBit_and, Nat.testBit_xor, Nat.testBit_xor, Nat.testBit_xor, h1]
    cases x.testBit 31 <;> cases y.testBit 31 <;> cases d.testBit 31 <;> rfl
  rw [← top hrlt, e]
  have tx := top hx
  have ty := top hy
  have td := top hdlt
  cases hX : x.testBit 31 <;> cases hY : y.testBit 31 <;> cases hD : d.testBit 31 <;> rw [hX] at tx <;> rw [hY] at ty <;> rw [hD] at td <;> simp only [Bool.toNat_true, Bool.toNat_false] at tx ty td <;> simp <;> omega
def bs (l : List UInt8) : ByteArray := ⟨l.toArray⟩
def bl (s : ByteArray) : List UInt8 := s.data.toList
theorem bs_bl (s : ByteArray) : bs (bl s) = s := rfl
theorem bl_bs (l : List UInt8) : bl (bs l) = l := rfl
theorem bs_inj {l l' : List UInt8} : bs l = bs l' ↔ l = l' := ⟨fun h => by have := congrArg bl h; rwa [bl_bs, bl_bs] at this, fun h => by rw [h]⟩
theorem bs_nil : (⟨#[]⟩ : ByteArray) = bs [] := rfl
theorem bs_size (l : List UInt8) : (bs l).size = l.length := rfl
theorem bs_get (l : List UInt8) (i : Nat) : (bs l)[i]? = l[i]? := by
  by_cases h : i < l.length
  · have h' : i < (bs l).size := by rw [bs_size]; exact h
    rw [getElem?_pos (bs l) i h', List.getElem?_eq_getElem h]
    simp [bs]
    rfl
  · have h' : ¬ i < (bs l).size := by rw [bs_size]; exact h
    rw [getElem?_neg (bs l) i h', List.getElem?_eq_none (by omega)]
theorem bs_extract (l : List UInt8) (i j : Nat) : (bs l).extract i j = bs ((l.drop i).take (j - i)) := by
  have : bl ((bs l).extract i j) = (l.drop i).take (j - i) := by
    simp [bl, bs, ByteArray.data_extract]
  rw [← this, bs_bl]
end Go.Fw
namespace Go.Fw
open Go
theorem aSlice_at {tt : TT} {H : Heap} {t e : TypeId} {sz by_ : Nat} {z : Value} {q : Option (List TD)} {s b i n c l h : Nat} {lo hi : Option Value} (ht : tt t = some ⟨.slice e, sz, by_, z, q⟩) (he : sizeT tt e = some s)
    (hB : ∃ B, H[b]? = some B ∧ B.esz = s) (hs : 0 < s) (hc : c = 0 ∨ n ≤ c) (hlo : bnd lo 0 = some l) (hhi : bnd hi n = some h) (h1 : l ≤ h) (h2 : h ≤ n) :
    aSlice tt H t (.slice (some ⟨b, i, none⟩) n c) lo hi none = some (.slice (some ⟨b, i + l * s, none⟩) (h - l) (c - l)) := by
  obtain ⟨B, hB1, hB2⟩ := hB
  cases c with
  | zero =>
    unfold aSlice
    rw [ht]
    simp only [he, hB1, hlo, hhi]
    rw [if_pos ⟨hB2, hs, h1, h2⟩]
    simp
  | succ c =>
    unfold aSlice
    rw [ht]
    have hm : bnd none (c + 1) = some (c + 1) := rfl
    simp only [he, hlo, hhi, hm]
    rw [if_pos ⟨h1, by omega, Nat.le_refl _, by simp⟩]
end Go.Fw
namespace Go.Fw
def valL : List Nat → Nat | [] => 0 | x :: l => x + 4294967296 * valL l
def small (l : List Nat) : Prop := ∀ x ∈ l, x < 4294967296
theorem small_nil : small [] := by intro x h; cases h
theorem small_cons {x : Nat} {l : List Nat} : small (x :: l) ↔ x < 4294967296 ∧ small l := by simp [small]
theorem small_app {l m : List Nat} : small (l ++ m) ↔ small l ∧ small m := by
  constructor
  · intro h; exact ⟨fun x hx => h x (List.mem_append_left _ hx), fun x hx => h x (List.mem_append_right _ hx)⟩
  · rintro ⟨h1, h2⟩ x hx
    rcases List.mem_append.1 hx with hx | hx
    · exact h1 x hx
    · exact h2 x hx
theorem small_take {l : List Nat} (h : small l) (k : Nat) : small (l.take k) := fun x hx => h x (List.mem_of_mem_take hx)
theorem small_get {l : List Nat} (h : small l) {k : Nat} (hk : k < l.length) : l[k] < 4294967296 := h _ (List.getElem_mem hk)
theorem small_set {l : List Nat} (h : small l) {k x : Nat} (hx : x < 4294967296) : small (l.set k x) := by
  intro y hy
  rcases List.mem_or_eq_of_mem_set hy with hy | rfl
  · exact h y hy
  · exact hx
theorem small_zeros (n : Nat) : small (List.replicate n 0) := by
  intro x hx; rw [(List.mem_replicate.1 hx).2]; decide
theorem valL_app (l m : List Nat) : valL (l ++ m) = valL l + 4294967296 ^ l.length * valL m := by
  induction l with
  | nil => simp [valL]
  | cons x l ih => simp only [List.cons_append, valL, ih, List.length_cons, Nat.pow_succ, Nat.mul_add]; rw [← Nat.mul_assoc, Nat.mul_comm 4294967296 (4294967296 ^ l.length)]; omega
theorem valL_snoc (l : List Nat) (x : Nat) : valL (l ++ [x]) = valL l + 4294967296 ^ l.length * x := by rw [valL_app]; simp [valL]
theorem valL_zeros (n : Nat) : valL (List.replicate n 0) = 0 := by
  induction n with
  | zero => rfl
  | succ n ih => simp [List.replicate_succ, valL, ih]
theorem valL_lt {l : List Nat} (h : small l) : valL l < 4294967296 ^ l.length := by
  induction l with
  | nil => simp [valL]
  | cons x l ih =>
    have ⟨h1, h2⟩ := small_cons.1 h
    have := ih h2
    simp only [valL, List.length_cons, Nat.pow_succ]
    have : 4294967296 * (valL l + 1) ≤ 4294967296 * 4294967296 ^ l.length := Nat.mul_le_mul_left _ this
    omega
theorem valL_inj {l m : List Nat} (hl : small l) (hm : small m) (hlen : l.length = m.length) (h : valL l = valL m) : l = m := by
  induction l generalizing m with
  | nil => cases m with
    | nil => rfl
    | cons _ _ => simp at hlen
  | cons x l ih =>
    cases m with
    | nil => simp at hlen
    | cons y m =>
      have ⟨h1, h2⟩ := small_cons.1 hl
      have ⟨h3, h4⟩ := small_cons.1 hm
      simp only [valL] at h
      have e : x = y := by omega
      rw [e, ih h2 h4 (by simpa using hlen) (by omega)]
theorem valL_take_drop (l : List Nat) (k : Nat) : valL l = valL (l.take k) + 4294967296 ^ (min k l.length) * valL (l.drop k) := by
  have := valL_app (l.take k) (l.drop k)
  rw [List.take_append_drop, List.length_take] at this
  exact this
theorem valL_take_succ {l : List Nat} {k : Nat} (hk : k < l.length) : valL (l.take (k + 1)) = valL (l.take k) + 4294967296 ^ k * l[k] := by
  rw [List.take_add_one, List.getElem?_eq_getElem hk, Option.toList_some, valL_snoc, List.length_take, Nat.min_eq_left (by omega)]
theorem valL_set {l : List Nat} {k x : Nat} (hk : k < l.length) : valL (l.set k x) + 4294967296 ^ k * l[k] = valL l + 4294967296 ^ k * x := by
  induction l generalizing k with
  | nil => simp at hk
  | cons y l ih =>
    cases k with
    | zero => simp [valL]; omega
    | succ k =>
      have := ih (k := k) (by simpa using hk)
      simp only [List.set_cons_succ, valL, List.getElem_cons_succ, Nat.pow_succ]
      have e : ∀ z, 4294967296 ^ k * 4294967296 * z = 4294967296 * (4294967296 ^ k * z) := fun z => by rw [Nat.mul_comm (4294967296 ^ k), Nat.mul_assoc]
      rw [e, e]
      omega
theorem valL_ge {l : List Nat} {k : Nat} (hk : k < l.length) : 4294967296 ^ k * l[k] ≤ valL l := by
  have := valL_set (x := 0) hk
  omega
def dropN : List Nat → List Nat | [] => [] | x :: l => if x = 0 then dropN l else x :: l
def trimZ (l : List Nat) : List Nat := (dropN l.reverse).reverse
theorem trimZ_snoc (l : List Nat) (x : Nat) : trimZ (l ++ [x]) = if x = 0 then trimZ l else l ++ [x] := by
  unfold trimZ
  rw [List.reverse_append]
  simp only [List.reverse_cons, List.reverse_nil, List.nil_append, List.cons_append, dropN]
  split <;> simp
theorem trimZ_take (l : List Nat) : ∃ k, trimZ l = l.take k := by
  have key : ∀ r : List Nat, ∃ k, (dropN r) = r.drop k := by
    intro r
    induction r with
    | nil => exact ⟨0, rfl⟩
    | cons x r ih =>
      obtain ⟨k, hk⟩ := ih
      by_cases hx : x = 0
      · exact ⟨k + 1, by simp [dropN, hx, hk]⟩
      · exact ⟨0, by simp [dropN, hx]⟩
  obtain ⟨k, hk⟩ := key l.reverse
  refine ⟨l.length - k, ?_⟩
  unfold trimZ
  rw [hk, List.drop_reverse]
  simp
theorem snoc_ind {P : List Nat → Prop} (h0 : P []) (h1 : ∀ l x, P l → P (l ++ [x])) (l : List Nat) : P l := by
  have key : ∀ r : List Nat, P r.reverse := by
    intro r
    induction r with
    | nil => exact h0
    | cons x r ih => rw [List.reverse_cons]; exact h1 _ _ ih
  have := key l.reverse
  rwa [List.reverse_reverse] at this
theorem valL_trim (l : List Nat) : valL (trimZ l) = valL l := by
  refine snoc_ind (P := fun l => valL (trimZ l) = valL l) rfl (fun l x ih => ?_) l
  rw [trimZ_snoc]
  split
  · rename_i h; rw [ih, valL_snoc, h]; simp
  · rfl
theorem trim_trim (l : List Nat) : trimZ (trimZ l) = trimZ l := by
  refine snoc_ind (P := fun l => trimZ (trimZ l) = trimZ l) rfl (fun l x ih => ?_) l
  rw [trimZ_snoc]
  split
  · exact ih
  · rename_i h; rw [trimZ_snoc, if_neg h]
theorem small_trim {l : List Nat} (h : small l) : small (trimZ l) := by obtain ⟨k, hk⟩ := trimZ_take l; rw [hk]; exact small_take h k
theorem trim_len (l : List Nat) : (trimZ l).length ≤ l.length := by obtain ⟨k, hk⟩ := trimZ_take l; rw [hk]; simp; omega
structure Canl (l : List Nat) (n : Nat) : Prop where
  small : Fw.small l
  trim : trimZ l = l
  val : valL l = n
theorem Canl.of_trim {l : List Nat} (h : Fw.small l) : Canl (trimZ l) (valL l) := ⟨small_trim h, trim_trim l, valL_trim l⟩
theorem trimmed_top {l : List Nat} (h : trimZ l = l) : l = [] ∨ ∃ m x, l = m ++ [x] ∧ x ≠ 0 := by
  revert h
  refine snoc_ind (P := fun l => trimZ l = l → l = [] ∨ ∃ m x, l = m ++ [x] ∧ x ≠ 0) (fun _ => .inl rfl) (fun l x ih h => ?_) l
  rw [trimZ_snoc] at h
  split at h
  · have e := trim_len l
    rw [h] at e
    simp at e
    omega
  · rename_i hx; exact .inr ⟨l, x, rfl, hx⟩
theorem Canl.ge {l : List Nat} {n : Nat} (h : Canl l n) (h0 : l ≠ []) : 4294967296 ^ (l.length - 1) ≤ n := by
  rcases trimmed_top h.trim with e | ⟨m, x, e, hx⟩
  · exact absurd e h0
  · rw [← h.val, e, valL_snoc]
    simp only [List.length_append, List.length_cons, List.length_nil, Nat.zero_add, Nat.add_sub_cancel]
    have : 4294967296 ^ m.length * 1 ≤ 4294967296 ^ m.length * x := Nat.mul_le_mul_left _ (by omega)
    omega
theorem Canl.lt {l : List Nat} {n : Nat} (h : Canl l n) : n < 4294967296 ^ l.length := by rw [← h.val]; exact valL_lt h.small
theorem Canl.nil_iff {l : List Nat} {n : Nat} (h : Canl l n) : l = [] ↔ n = 0 := by
  constructor
  · rintro rfl; exact h.val.symm
  · intro hn
    refine Classical.byContradiction fun h0 => ?_
    have := h.ge h0
    have : 0 < 4294967296 ^ (l.length - 1) := Nat.pow_pos (by decide)
    omega
theorem Canl.zero : Canl [] 0 := ⟨small_nil, rfl, rfl⟩
theorem Canl.len_le {l m : List Nat} {n k : Nat} (h : Canl l n) (h' : Canl m k) (hlt : l.length < m.length) : n < k := by
  have h1 := h.lt
  have h2 := h'.ge (by rintro rfl; simp at hlt)
  have : 4294967296 ^ l.length ≤ 4294967296 ^ (m.length - 1) := Nat.pow_le_pow_right (by decide) (by omega)
  omega
theorem Canl.uniq {l m : List Nat} {n : Nat} (h : Canl l n) (h' : Canl m n) : l = m := by
  rcases Nat.lt_trichotomy l.length m.length with hl | hl | hl
  · have := h.len_le h' hl; omega
  · exact valL_inj h.small h'.small hl (by rw [h.val, h'.val])
  · have := h'.len_le h hl; omega
theorem Canl.of_len {l : List Nat} {n : Nat} (hs : Fw.small l) (hv : valL l = n) (h : l = [] ∨ 4294967296 ^ (l.length - 1) ≤ n) : Canl l n := by
  refine ⟨hs, ?_, hv⟩
  revert hs hv h
  refine snoc_ind (P := fun l => Fw.small l → valL l = n → l = [] ∨ 4294967296 ^ (l.length - 1) ≤ n → trimZ l = l) (fun _ _ _ => rfl) (fun l x ih hs hv h => ?_) l
  rw [trimZ_snoc]
  split
  · rename_i hx
    rcases h with h | h
    · simp at h
    · rw [valL_snoc, hx] at hv
      have := valL_lt (small_app.1 hs).1
      simp at h
      omega
  · rfl
theorem pow_b (k : Nat) : 4294967296 ^ k = 2 ^ (32 * k) := by rw [show (4294967296 : Nat) = 2 ^ 32 from rfl, ← Nat.pow_mul]
theorem pow_d (k : Nat) : 256 ^ k = 2 ^ (8 * k) := by rw [show (256 : Nat) = 2 ^ 8 from rfl, ← Nat.pow_mul]
theorem pow_split (j : Nat) : 2 ^ (8 * j) = 4294967296 ^ (j / 4) * 2 ^ (8 * (j % 4)) := by rw [pow_b, ← Nat.pow_add]; congr 1; omega
theorem valL_top {l m : List Nat} {k : Nat} (hl : Fw.small l) (h1 : k < l.length) (h2 : k < m.length) (hd : l.drop (k + 1) = m.drop (k + 1)) (hlt : l[k] < m[k]) : valL l < valL m := by
  have e1 := valL_take_drop l (k + 1)
  have e2 := valL_take_drop m (k + 1)
  rw [Nat.min_eq_left (by omega)] at e1 e2
  rw [hd] at e1
  rw [valL_take_succ h1] at e1
  rw [valL_take_succ h2] at e2
  have h3 := valL_lt (small_take hl k)
  rw [List.length_take, Nat.min_eq_left (by omega)] at h3
  have h4 : 4294967296 ^ k * (l[k] + 1) ≤ 4294967296 ^ k * m[k] := Nat.mul_le_mul_left _ hlt
  rw [Nat.mul_add] at h4
  omega
theorem valL_take_getD (l : List Nat) (k : Nat) : valL (l.take (k + 1)) = valL (l.take k) + 4294967296 ^ k * l.getD k 0 := by
  by_cases h : k < l.length
  · rw [valL_take_succ h]; simp [h]
  · rw [List.take_of_length_le (by omega), List.take_of_length_le (by omega)]
    simp [show l.length ≤ k by omega]
theorem small_getD {l : List Nat} (h : Fw.small l) (k : Nat) : l.getD k 0 < 4294967296 := by
  by_cases hk : k < l.length
  · simp [hk]; exact small_get h hk
  · simp [show l.length ≤ k by omega]
theorem sum_step {A B C p c x y : Nat} (h : A + p * c = B + C) : A + p * ((c + x + y) % 4294967296) + p * 4294967296 * ((c + x + y) / 4294967296) = (B + p * x) + (C + p * y) := by
  have e := Nat.mod_add_div (c + x + y) 4294967296
  have e2 : p * ((c + x + y) % 4294967296) + p * 4294967296 * ((c + x + y) / 4294967296) = p * (c + x + y) := by
    rw [Nat.mul_assoc, ← Nat.mul_add, e]
  rw [Nat.add_assoc, e2, Nat.mul_add, Nat.mul_add]
  omega
theorem valL_take_set {o : List Nat} {j x : Nat} (h : j < o.length) : valL ((o.set j x).take (j + 1)) = valL (o.take j) + 4294967296 ^ j * x := by
  rw [valL_take_succ (by simpa using h), List.take_set_of_le (Nat.le_refl _)]
  simp
theorem valL_set' {l : List Nat} {k x : Nat} (hk : k < l.length) : valL (l.set k x) + 4294967296 ^ k * l.getD k 0 = valL l + 4294967296 ^ k * x := by
  have := valL_set (x := x) hk
  simpa [hk] using this
theorem mul_step {A A' S p c x y d : Nat} (hA : A + p * c = S) (hs : A' + p * d = A + p * ((c + (x * y + d)) % 4294967296)) : A' + p * 4294967296 * ((c + (x * y + d)) / 4294967296) = S + p * (x * y) := by
  have e := Nat.mod_add_div (c + (x * y + d)) 4294967296
  have e2 : p * ((c + (x * y + d)) % 4294967296) + p * 4294967296 * ((c + (x * y + d)) / 4294967296) = p * c + (p * (x * y) + p * d) := by
    rw [Nat.mul_assoc, ← Nat.mul_add, e, Nat.mul_add, Nat.mul_add]
  omega
theorem mul_carry {c x y d : Nat} (hc : c < 4294967296) (hx : x < 4294967296) (hy : y < 4294967296) (hd : d < 4294967296) : c + (x * y + d) < 18446744073709551616 := by
  have : x * y ≤ 4294967295 * 4294967295 := Nat.mul_le_mul (by omega) (by omega)
  omega
theorem top_zero {l : List Nat} {k : Nat} (h : valL l < 4294967296 ^ k) : l.getD k 0 = 0 := by
  by_cases hk : k < l.length
  · have := valL_ge hk
    simp [hk]
    refine Classical.byContradiction fun h0 => ?_
    have : 4294967296 ^ k * 1 ≤ 4294967296 ^ k * l[k] := Nat.mul_le_mul_left _ (by omega)
    omega
  · simp [show l.length ≤ k by omega]
def cmpN (n k : Nat) : Int := if n < k then -1 else if k < n then 1 else 0
def valB (l : List UInt8) : Nat := l.foldl (fun n b => n * 256 + b.toNat) 0
theorem valB_snoc (l : List UInt8) (b : UInt8) : valB (l ++ [b]) = valB l * 256 + b.toNat := by simp [valB]
theorem valB_from (l : List UInt8) (n : Nat) : l.foldl (fun n b => n * 256 + b.toNat) n = n * 256 ^ l.length + valB l := by
  induction l generalizing n with
  | nil => simp [valB]
  | cons b l ih =>
    have h1 := ih (n * 256 + b.toNat)
    have h2 := ih (0 * 256 + b.toNat)
    simp only [valB, List.foldl_cons] at h1 h2 ⊢
    rw [h1, h2]
    simp only [List.length_cons, Nat.pow_succ, Nat.add_mul, Nat.zero_mul, Nat.zero_add]
    have e : n * 256 * 256 ^ l.length = n * (256 ^ l.length * 256) := by rw [Nat.mul_assoc, Nat.mul_comm 256]
    omega
theorem valB_cons (b : UInt8) (l : List UInt8) : valB (b :: l) = b.toNat * 256 ^ l.length + valB l := by
  have := valB_from l (0 * 256 + b.toNat)
  simpa [valB] using this
theorem valB_lt (l : List UInt8) : valB l < 256 ^ l.length := by
  induction l with
  | nil => simp [valB]
  | cons b l ih =>
    rw [valB_cons, List.length_cons, Nat.pow_succ]
    have h1 := b.toNat_lt
    have : b.toNat * 256 ^ l.length ≤ 255 * 256 ^ l.length := Nat.mul_le_mul_right _ (by omega)
    omega
def dropZ : List UInt8 → List UInt8 | [] => [] | b :: l => if b = 0 then dropZ l else b :: l
theorem valB_drop (l : List UInt8) : valB (dropZ l) = valB l := by
  induction l with
  | nil => rfl
  | cons b l ih =>
    unfold dropZ
    split
    · rename_i h; rw [ih, valB_cons, h]; simp
    · rfl
theorem dropZ_len (l : List UInt8) : (dropZ l).length ≤ l.length := by
  induction l with
  | nil => simp [dropZ]
  | cons b l ih => unfold dropZ; split <;> simp; omega
theorem dropZ_idem (l : List UInt8) : dropZ (dropZ l) = dropZ l := by
  induction l with
  | nil => rfl
  | cons b l ih =>
    by_cases h : b = 0
    · simp [dropZ, h, ih]
    · simp [dropZ, h]
theorem u8_zero {b : UInt8} : ((b.toNat : Int) = 0) ↔ b = 0 := by
  constructor
  · intro h
    have : b.toNat = 0 := by omega
    exact UInt8.toNat_inj.1 this
  · rintro rfl; rfl
theorem dropZ_ge {l : List UInt8} (h : dropZ l = l) (h0 : l ≠ []) : 256 ^ (l.length - 1) ≤ valB l := by
  cases l with
  | nil => exact absurd rfl h0
  | cons b l =>
    have hb : b ≠ 0 := by
      rintro rfl
      have := dropZ_len l
      simp [dropZ] at h
      rw [h] at this; simp at this
      omega
    have : b.toNat ≠ 0 := fun e => hb (UInt8.toNat_inj.1 e)
    rw [valB_cons]
    simp only [List.length_cons, Nat.add_sub_cancel]
    have : 1 * 256 ^ l.length ≤ b.toNat * 256 ^ l.length := Nat.mul_le_mul_right _ (by omega)
    omega
def digB (n : Nat) : List UInt8 := if h : n = 0 then [] else digB (n / 256) ++ [UInt8.ofNat (n % 256)]
termination_by n
decreasing_by omega
theorem valB_inj {l m : List UInt8} (hlen : l.length = m.length) (h : valB l = valB m) : l = m := by
  induction l generalizing m with
  | nil => cases m with
    | nil => rfl
    | cons _ _ => simp at hlen
  | cons b l ih =>
    cases m with
    | nil => simp at hlen
    | cons c m =>
      rw [valB_cons, valB_cons] at h
      have hl : l.length = m.length := by simpa using hlen
      have h1 := valB_lt l
      have h2 := valB_lt m
      rw [hl] at h h1
      have hp : 0 < 256 ^ m.length := Nat.pow_pos (by decide)
      have e : b.toNat = c.toNat := by
        have a1 : (b.toNat * 256 ^ m.length + valB l) / 256 ^ m.length = b.toNat := by rw [Nat.mul_comm, Nat.mul_add_div hp, Nat.div_eq_of_lt h1]; rfl
        have a2 : (c.toNat * 256 ^ m.length + valB m) / 256 ^ m.length = c.toNat := by rw [Nat.mul_comm, Nat.mul_add_div hp, Nat.div_eq_of_lt h2]; rfl
        rw [← a1, ← a2, h]
      rw [UInt8.toNat_inj.1 e, ih hl (by rw [e] at h; omega)]
theorem dropZ_uniq {l m : List UInt8} (hl : dropZ l = l) (hm : dropZ m = m) (h : valB l = valB m) : l = m := by
  have key : ∀ {l m : List UInt8}, dropZ l = l → dropZ m = m → valB l = valB m → ¬ l.length < m.length := by
    intro l m hl hm h hlt
    have h1 := valB_lt l
    have h2 := dropZ_ge hm (by rintro rfl; simp at hlt)
    have : 256 ^ l.length ≤ 256 ^ (m.length - 1) := Nat.pow_le_pow_right (by decide) (by omega)
    omega
  exact valB_inj (by have := key hl hm h; have := key hm hl h.symm; omega) h
theorem valB_dig (n : Nat) : valB (digB n) = n := by
  induction n using Nat.strongRecOn with
  | _ n ih =>
    unfold digB
    split
    · rename_i h; rw [h]; rfl
    · rw [valB_snoc, ih (n / 256) (by omega)]
      have : (UInt8.ofNat (n % 256)).toNat = n % 256 := by simp
      omega
theorem dropZ_app {l m : List UInt8} (h : dropZ l = l) (h0 : l ≠ []) : dropZ (l ++ m) = l ++ m := by
  cases l with
  | nil => exact absurd rfl h0
  | cons b l =>
    by_cases hb : b = 0
    · simp [dropZ, hb] at h
      have := dropZ_len l
      rw [h] at this; simp at this; omega
    · simp [dropZ, hb]
theorem digB_zero : digB 0 = [] := by unfold digB; rfl
theorem digB_drop (n : Nat) : dropZ (digB n) = digB n := by
  induction n using Nat.strongRecOn with
  | _ n ih =>
    by_cases h : n = 0
    · rw [h, digB_zero]; rfl
    · unfold digB
      rw [dif_neg h]
      by_cases h2 : n / 256 = 0
      · rw [h2, digB_zero]
        have : UInt8.ofNat (n % 256) ≠ 0 := by
          intro e
          have e2 := congrArg UInt8.toNat e
          simp at e2
          omega
        simp [dropZ, this]
      · refine dropZ_app (ih _ (by omega)) ?_
        intro e
        have := valB_dig (n / 256)
        rw [e] at this
        exact h2 this.symm
theorem digB_valB {l : List UInt8} (h : dropZ l = l) : digB (valB l) = l := dropZ_uniq (digB_drop _) h (valB_dig _)
theorem digB_strip (l : List UInt8) : dropZ l = digB (valB l) := by rw [← valB_drop l, digB_valB (dropZ_idem l)]
theorem digB_len (n k : Nat) (h : n < 256 ^ k) : (digB n).length ≤ k := by
  refine Classical.byContradiction fun hk => ?_
  have h1 := dropZ_ge (digB_drop n) (by intro e; rw [e] at hk; simp at hk)
  rw [valB_dig] at h1
  have : 256 ^ k ≤ 256 ^ ((digB n).length - 1) := Nat.pow_le_pow_right (by decide) (by omega)
  omega
theorem digB_nil_iff {n : Nat} : digB n = [] ↔ n = 0 := by
  constructor
  · intro h; have := valB_dig n; rw [h] at this; exact this.symm
  · rintro rfl; exact digB_zero
end Go.Fw
namespace Go.Fw
open Go
def u32s (l : List Nat) : List Value := l.map fun (x : Nat) => Value.int .u32 (x : Int)
structure LimAt (H : Heap) (b i c : Nat) (l : List Nat) : Prop where
  cap : c = 0 ∨ l.length ≤ c
  blk : ∃ B, H[b]? = some B ∧ B.esz = 1 ∧ i + l.length ≤ B.cells.length ∧ (B.cells.drop i).take l.length = u32s l
  len : l.length ≤ 1099511627776
def Lim (H : Heap) (v : Value) (l : List Nat) : Prop := (v = .slice none 0 0 ∧ l = []) ∨ ∃ b i c, v = .slice (some ⟨b, i, none⟩) l.length c ∧ LimAt H b i c l
theorem LimAt.rd {H : Heap} {b i c : Nat} {l : List Nat} (h : LimAt H b i c l) {k : Nat} (hk : k < l.length) : rd H b (i + k) 1 = some [.int .u32 (l[k] : Nat)] := by
  obtain ⟨B, h1, h2, h3, h4⟩ := h.blk
  unfold Fw.rd
  rw [h1]
  simp only
  rw [if_pos (by omega)]
  have e : ((B.cells.drop i).take l.length)[k]? = some (.int .u32 (l[k] : Nat)) := by rw [h4]; simp [u32s, hk]
  rw [List.getElem?_take, if_pos hk, List.getElem?_drop] at e
  congr 1
  apply List.ext_getElem?
  intro j
  rw [List.getElem?_take, List.getElem?_drop]
  by_cases hj : j < 1
  · obtain rfl : j = 0 := by omega
    simpa using e
  · rw [if_neg hj]; simp; omega
theorem LimAt.take {H : Heap} {b i c : Nat} {l : List Nat} (h : LimAt H b i c l) (k : Nat) : LimAt H b i c (l.take k) := by
  obtain ⟨B, h1, h2, h3, h4⟩ := h.blk
  have := h.len
  refine ⟨by have := h.cap; simp; omega, ⟨B, h1, h2, by simp; omega, ?_⟩, by simp; omega⟩
  have : u32s (l.take k) = (u32s l).take k := by simp [u32s, List.map_take]
  rw [this, ← h4, List.take_take, List.length_take]
theorem LimAt.app {H : Heap} {b i c : Nat} {l : List Nat} (h : LimAt H b i c l) (G : Heap) : LimAt (H ++ G) b i c l := by
  obtain ⟨B, h1, h2⟩ := h.blk
  refine ⟨h.cap, ⟨B, ?_, h2⟩, h.len⟩
  have : b < H.length := by rcases List.getElem?_eq_some_iff.1 h1 with ⟨h, _⟩; exact h
  rw [List.getElem?_append_left this]; exact h1
theorem Lim.app {H : Heap} {v : Value} {l : List Nat} (h : Lim H v l) (G : Heap) : Lim (H ++ G) v l := by
  rcases h with h | ⟨b, i, c, h1, h2⟩
  · exact .inl h
  · exact .inr ⟨b, i, c, h1, h2.app G⟩
theorem LimAt.lim {H : Heap} {b i c : Nat} {l : List Nat} (h : LimAt H b i c l) : Lim H (.slice (some ⟨b, i, none⟩) l.length c) l := .inr ⟨b, i, c, rfl, h⟩
theorem u32s_length (l : List Nat) : (u32s l).length = l.length := by simp [u32s]
theorem u32s_set (l : List Nat) (k x : Nat) : (u32s l).set k (.int .u32 (x : Nat)) = u32s (l.set k x) := by simp [u32s, List.map_set]
theorem u32s_zeros (n : Nat) : List.replicate n (Value.int .u32 0) = u32s (List.replicate n 0) := by simp [u32s]
theorem splice_one (cs : List Value) (k : Nat) (v : Value) (h : k < cs.length) : splice cs k [v] = cs.set k v := by
  unfold splice
  rw [List.set_eq_take_append_cons_drop]
  simp [h]
theorem row_rd {l : List Nat} {L : Heap} {k : Nat} (h : k < l.length) : rd (⟨u32s l, 1, true⟩ :: L) 0 k 1 = some [.int .u32 (l[k] : Nat)] := by
  unfold rd
  simp only [List.getElem?_cons_zero]
  rw [if_pos (by simp [u32s_length]; omega)]
  congr 1
  apply List.ext_getElem?
  intro j
  rw [List.getElem?_take, List.getElem?_drop]
  by_cases hj : j < 1
  · obtain rfl : j = 0 := by omega
    simp [u32s, h]
  · rw [if_neg hj]; simp; omega
theorem row_wr {l : List Nat} {L : Heap} {k x : Nat} (h : k < l.length) : wr (⟨u32s l, 1, true⟩ :: L) 0 k [.int .u32 (x : Nat)] = some (⟨u32s (l.set k x), 1, true⟩ :: L) := by
  rw [wr_eq]
  simp only [List.getElem?_cons_zero, List.set_cons_zero]
  rw [if_pos (by simp [u32s_length, allC, isCell]; omega), splice_one _ _ _ (by rw [u32s_length]; exact h), u32s_set]
theorem row_lim {H : Heap} {l : List Nat} {L : Heap} {c : Nat} (hc : c = 0 ∨ l.length ≤ c) (hl : l.length ≤ 1099511627776) : LimAt (H ++ (⟨u32s l, 1, true⟩ :: L)) H.length 0 c l :=
  ⟨hc, ⟨⟨u32s l, 1, true⟩, by simp, rfl, by simp [u32s_length], by simp [← u32s_length]⟩, hl⟩
def LN (H : Heap) (v : Value) (n : Nat) : Prop := ∃ l, Lim H v l ∧ Canl l n
theorem LN.app {H : Heap} {v : Value} {n : Nat} (h : LN H v n) (G : Heap) : LN (H ++ G) v n := let ⟨l, h1, h2⟩ := h; ⟨l, h1.app G, h2⟩
theorem LN.nil (H : Heap) : LN H (.slice none 0 0) 0 := ⟨[], .inl ⟨rfl, rfl⟩, Canl.zero⟩
def Fit (n : Nat) : Prop := ∃ k, k ≤ 8000000 ∧ n < 2 ^ k
theorem Canl.short {l : List Nat} {n : Nat} (h : Canl l n) (hf : Fit n) : l.length ≤ 1000000 := by
  obtain ⟨k, hk, hn⟩ := hf
  refine Classical.byContradiction fun hlt => ?_
  have h1 := h.ge (by rintro rfl; simp at hlt)
  have h2 : 2 ^ k ≤ 4294967296 ^ (l.length - 1) := by
    have : (4294967296 : Nat) = 2 ^ 32 := rfl
    rw [this, ← Nat.pow_mul]
    exact Nat.pow_le_pow_right (by decide) (by omega)
  omega
theorem valB_fit {m : List UInt8} (h : m.length ≤ 1000000) : Fit (valB m) := by
  refine ⟨8 * m.length, by omega, ?_⟩
  have := valB_lt m
  have e : (256 : Nat) = 2 ^ 8 := rfl
  rwa [e, ← Nat.pow_mul] at this
theorem Lim.at {H : Heap} {v : Value} {l : List Nat} (h : Lim H v l) (h0 : l ≠ []) : ∃ b i c, v = .slice (some ⟨b, i, none⟩) l.length c ∧ LimAt H b i c l := by
  rcases h with ⟨_, h⟩ | h
  · exact absurd h h0
  · exact h
theorem Lim.len {tt : TT} {H : Heap} {v : Value} {l : List Nat} (h : Lim H v l) {t e : TypeId} {sz by_ : Nat} {z : Value} {q : Option (List TD)} (ht : tt t = some ⟨.slice e, sz, by_, z, q⟩) : aLen tt [t] v = some (.int .i64 (l.length : Nat)) := by
  rcases h with ⟨rfl, rfl⟩ | ⟨b, i, c, rfl, h⟩ <;> simp [aLen, ht]
def Ext (H H' : Heap) : Prop := ∃ G, H' = H ++ G
theorem Ext.refl (H : Heap) : Ext H H := ⟨[], by simp⟩
theorem Ext.app (H G : Heap) : Ext H (H ++ G) := ⟨G, rfl⟩
theorem Ext.trans {H H1 H2 : Heap} (h1 : Ext H H1) (h2 : Ext H1 H2) : Ext H H2 := by
  obtain ⟨G, rfl⟩ := h1; obtain ⟨G', rfl⟩ := h2; exact ⟨G ++ G', by rw [List.append_assoc]⟩
theorem LN.ext {H H' : Heap} {v : Value} {n : Nat} (h : LN H v n) (e : Ext H H') : LN H' v n := by obtain ⟨G, rfl⟩ := e; exact h.app G
theorem Lim.ext {H H' : Heap} {v : Value} {l : List Nat} (h : Lim H v l) (e : Ext H H') : Lim H' v l := by obtain ⟨G, rfl⟩ := e; exact h.app G
end Go.Fw
namespace Go.Fw
open Go
def u8s (l : List UInt8) : List Value := l.map fun b => Value.int .u8 (b.toNat : Int)
theorem u8s_length (l : List UInt8) : (u8s l).length = l.length := by simp [u8s]
theorem u8s_app (l m : List UInt8) : u8s l ++ u8s m = u8s (l ++ m) := by simp [u8s]
theorem bytesOf_u8s (l : List UInt8) : bytesOf (u8s l) = some l := by
  induction l with
  | nil => rfl
  | cons b l ih =>
    have : u8s (b :: l) = Value.int .u8 (b.toNat : Int) :: u8s l := rfl
    rw [this]
    unfold bytesOf
    rw [ih]
    simp
theorem rd_whole {H : Heap} {b : Nat} {B : Blk} (h : H[b]? = some B) (he : 0 < B.esz) : rd H b 0 B.cells.length = some B.cells := by
  unfold rd
  rw [h]
  simp [he]
theorem rd_end {H : Heap} {cs : List Value} {e : Nat} {o : Bool} {L : Heap} (he : 0 < e) : rd (H ++ (⟨cs, e, o⟩ :: L)) H.length 0 cs.length = some cs := by
  rw [rd_app0]
  unfold rd
  simp [he]
theorem Ext.set {H H' : Heap} (h : Ext H H') {b : Nat} (hb : H.length ≤ b) (B : Blk) : Ext H (H'.set b B) := by
  obtain ⟨G, rfl⟩ := h
  exact ⟨G.set (b - H.length) B, List.set_append_right _ _ hb⟩
theorem Ext.get {H H' : Heap} (h : Ext H H') {b : Nat} {B : Blk} (hb : H[b]? = some B) : H'[b]? = some B := by
  obtain ⟨G, rfl⟩ := h
  have : b < H.length := by rcases List.getElem?_eq_some_iff.1 hb with ⟨h, _⟩; exact h
  rw [List.getElem?_append_left this]; exact hb
theorem LimAt.ext {H H' : Heap} {b i c : Nat} {l : List Nat} (h : LimAt H b i c l) (e : Ext H H') : LimAt H' b i c l := by obtain ⟨G, rfl⟩ := e; exact h.app G
theorem Ext.len {H H' : Heap} (h : Ext H H') : H.length ≤ H'.length := by obtain ⟨G, rfl⟩ := h; simp
theorem append_row {tt : TT} {T : Heap} {t e : TypeId} {sz by_ b bx ix cx m : Nat} {z : Value} {q : Option (List TD)} {d : TD} {ez : Value} {eq : Option (List TD)} {eb : Nat} {old new : List Value}
    (ht : tt t = some ⟨.slice e, sz, by_, z, q⟩) (he : tt e = some ⟨d, 1, eb, ez, eq⟩) (hez : ez.cells.size = 1) (hb1 : 0 < eb) (hb2 : eb ≤ 1048576)
    (hb : T[b]? = some ⟨old, 1, true⟩) (hx : rd T bx ix m = some new) (hm : new.length = m) (h0 : 0 < m) (hc : new.all isCell = true) (hs : (old.length + m) * eb ≤ 1099511627776) :
    aAppend tt T [t, t] (.slice (some ⟨b, 0, none⟩) old.length 0) (.slice (some ⟨bx, ix, none⟩) m cx) = some (.slice (some ⟨T.length, 0, none⟩) (old.length + m) 0, T.set b deadBlk ++ [⟨old ++ new, 1, true⟩]) := by
  have hold := rd_whole hb (by simp)
  unfold aAppend
  simp only [ht, he, srcLen, srcKind, srcCells, Nat.mul_one, hx, hold, hb]
  rw [if_pos ⟨by decide, trivial, hb1, hb2, fun _ => hez⟩, if_pos ⟨hm, hc⟩, if_neg (by omega), if_pos hs, if_neg (by simp)]
  simp
theorem append_nil {tt : TT} {T : Heap} {t e : TypeId} {sz by_ bx ix cx m : Nat} {z : Value} {q : Option (List TD)} {d : TD} {ez : Value} {eq : Option (List TD)} {eb : Nat} {new : List Value}
    (ht : tt t = some ⟨.slice e, sz, by_, z, q⟩) (he : tt e = some ⟨d, 1, eb, ez, eq⟩) (hez : ez.cells.size = 1) (hb1 : 0 < eb) (hb2 : eb ≤ 1048576)
    (hx : rd T bx ix m = some new) (hm : new.length = m) (h0 : 0 < m) (hc : new.all isCell = true) (hs : m * eb ≤ 1099511627776) :
    aAppend tt T [t, t] (.slice none 0 0) (.slice (some ⟨bx, ix, none⟩) m cx) = some (.slice (some ⟨T.length, 0, none⟩) m 0, T ++ [⟨new, 1, true⟩]) := by
  unfold aAppend
  simp only [ht, he, srcLen, srcKind, srcCells, Nat.mul_one, hx]
  rw [if_pos ⟨by decide, trivial, hb1, hb2, fun _ => hez⟩, if_pos ⟨hm, hc⟩, if_neg (by omega), if_pos hs]
theorem append_in {tt : TT} {T : Heap} {t e : TypeId} {sz by_ b i n c bx ix cx m : Nat} {z : Value} {q : Option (List TD)} {d : TD} {ez : Value} {eq : Option (List TD)} {eb : Nat} {new : List Value}
    (ht : tt t = some ⟨.slice e, sz, by_, z, q⟩) (he : tt e = some ⟨d, 1, eb, ez, eq⟩) (hez : ez.cells.size = 1) (hb1 : 0 < eb) (hb2 : eb ≤ 1048576)
    (hx : rd T bx ix m = some new) (hm : new.length = m) (h0 : 0 < m) (hc : new.all isCell = true) (hs : (n + m) * eb ≤ 1099511627776) (hcap : c ≠ 0 ∧ n + m ≤ c) :
    aAppend tt T [t, t] (.slice (some ⟨b, i, none⟩) n c) (.slice (some ⟨bx, ix, none⟩) m cx) = (wr T b (i + n) new).map fun H' => (.slice (some ⟨b, i, none⟩) (n + m) c, H') := by
  unfold aAppend
  simp only [ht, he, srcLen, srcKind, srcCells, Nat.mul_one, hx]
  rw [if_pos ⟨by decide, trivial, hb1, hb2, fun _ => hez⟩, if_pos ⟨hm, hc⟩, if_neg (by omega), if_pos hs, if_pos hcap]
def Row (T : Heap) (b : Nat) (o : List Nat) : Prop := T[b]? = some ⟨u32s o, 1, true⟩
theorem Row.rd {T : Heap} {b : Nat} {o : List Nat} (h : Row T b o) {j : Nat} (hj : j < o.length) : rd T b j 1 = some [.int .u32 (o[j] : Nat)] := by
  have := row_rd (L := []) hj
  unfold Fw.rd at this ⊢
  unfold Row at h
  rw [h]; exact this
theorem Row.wr {T : Heap} {b : Nat} {o : List Nat} (h : Row T b o) {j x : Nat} (hj : j < o.length) : wr T b j [.int .u32 (x : Nat)] = some (T.set b ⟨u32s (o.set j x), 1, true⟩) := by
  rw [wr_eq]
  unfold Row at h
  rw [h]
  simp only
  rw [if_pos (by simp [u32s_length, allC, isCell]; omega), splice_one _ _ _ (by rw [u32s_length]; exact hj), u32s_set]
theorem Row.lt {T : Heap} {b : Nat} {o : List Nat} (h : Row T b o) : b < T.length := by rcases List.getElem?_eq_some_iff.1 h with ⟨h, _⟩; exact h
theorem Row.set {T : Heap} {b : Nat} {o o' : List Nat} (h : Row T b o) : Row (T.set b ⟨u32s o', 1, true⟩) b o' := by
  unfold Row
  rw [List.getElem?_set_self h.lt]
theorem Row.other {T : Heap} {b b' : Nat} {o : List Nat} (h : Row T b o) (hne : b' ≠ b) (B : Blk) : Row (T.set b' B) b o := by
  unfold Row at h ⊢
  rw [List.getElem?_set_ne hne]; exact h
theorem Row.app {T : Heap} {b : Nat} {o : List Nat} (h : Row T b o) (G : Heap) : Row (T ++ G) b o := by
  have := h.lt
  unfold Row at h ⊢
  rw [List.getElem?_append_left this]; exact h
theorem Row.new (T : Heap) (o : List Nat) : Row (T ++ [⟨u32s o, 1, true⟩]) T.length o := by simp [Row]
theorem Row.at {T : Heap} {b : Nat} {o : List Nat} (h : Row T b o) {c : Nat} (n : Nat) (hc : c = 0 ∨ n ≤ c) (hl : o.length ≤ 1099511627776) (hn : n ≤ o.length) : LimAt T b 0 c (o.take n) :=
  by
  refine ⟨by simp; omega, ⟨_, h, rfl, by simp [u32s_length]; omega, by simp [u32s, List.map_take]⟩, by simp; omega⟩
theorem Row.append {tt : TT} {T : Heap} {t e : TypeId} {sz by_ b n c x : Nat} {z : Value} {q : Option (List TD)} {d : TD} {ez : Value} {eq : Option (List TD)} {eb : Nat} {o : List Nat}
    (ht : tt t = some ⟨.slice e, sz, by_, z, q⟩) (he : tt e = some ⟨d, 1, eb, ez, eq⟩) (hez : ez.cells.size = 1) (hb1 : 0 < eb) (hb2 : eb ≤ 1048576)
    (h : Row T b o) (hn : n < o.length) (hc : n + 1 ≤ c) (hs : (n + 1) * eb ≤ 1099511627776) :
    aAppend tt (T ++ [⟨[.int .u32 (x : Nat)], 1, true⟩]) [t, t] (.slice (some ⟨b, 0, none⟩) n c) (.slice (some ⟨T.length, 0, none⟩) 1 1) =
      some (.slice (some ⟨b, 0, none⟩) (n + 1) c, (T ++ ([⟨[.int .u32 (x : Nat)], 1, true⟩] : Heap)).set b ⟨u32s (o.set n x), 1, true⟩) := by
  have hx := rd_end (H := T) (cs := [Value.int .u32 (x : Nat)]) (o := true) (L := []) (show 0 < 1 by decide)
  have hcap : c ≠ 0 ∧ n + 1 ≤ c := ⟨by omega, hc⟩
  rw [append_in (m := 1) ht he hez hb1 hb2 hx rfl (by decide) rfl hs hcap, Nat.zero_add, (h.app _).wr hn]
  rfl
end Go.Fw
namespace Go.Fw
theorem valL_drop (l : List Nat) (hs : small l) (j : Nat) : valL (l.drop j) = valL l / 4294967296 ^ j := by
  by_cases hj : j ≤ l.length
  · have h1 := valL_take_drop l j
    have h2 := valL_lt (small_take hs j)
    rw [List.length_take] at h2
    rw [Nat.min_eq_left hj] at h1 h2
    rw [h1, Nat.add_mul_div_left _ _ (Nat.pow_pos (by decide)), Nat.div_eq_of_lt h2, Nat.zero_add]
  · rw [List.drop_eq_nil_of_le (by omega)]
    have h2 := valL_lt hs
    have h3 : 4294967296 ^ l.length ≤ 4294967296 ^ j := Nat.pow_le_pow_right (by decide) (by omega)
    rw [Nat.div_eq_of_lt (by omega)]
    rfl
theorem valL_mod (l : List Nat) (hs : small l) (j : Nat) : valL (l.take j) = valL l % 4294967296 ^ j := by
  have h1 := valL_take_drop l j
  have h2 := valL_lt (small_take hs j)
  rw [List.length_take] at h2
  by_cases hj : j ≤ l.length
  · rw [Nat.min_eq_left hj] at h1 h2
    rw [h1, Nat.add_mul_mod_self_left, Nat.mod_eq_of_lt h2]
  · rw [List.take_of_length_le (by omega)]
    have h2 := valL_lt hs
    have h3 : 4294967296 ^ l.length ≤ 4294967296 ^ j := Nat.pow_le_pow_right (by decide) (by omega)
    rw [Nat.mod_eq_of_lt (by omega)]
theorem valL_digit (l : List Nat) (hs : small l) (j : Nat) : l.getD j 0 = valL l / 4294967296 ^ j % 4294967296 := by
  rw [← valL_drop l hs j]
  by_cases hj : j < l.length
  · rw [List.drop_eq_getElem_cons hj]
    have := small_get hs hj
    simp only [valL]
    rw [Nat.add_mul_mod_self_left, Nat.mod_eq_of_lt this]
    simp [hj]
  · rw [List.drop_eq_nil_of_le (by omega)]
    simp [valL, show l.length ≤ j by omega]
theorem valL_high {l : List Nat} (hs : small l) {j : Nat} (h : valL l < 4294967296 ^ j) : l.drop j = List.replicate (l.length - j) 0 := by
  have h1 := valL_drop l hs j
  rw [Nat.div_eq_of_lt h] at h1
  refine valL_inj (fun x hx => hs x (List.mem_of_mem_drop hx)) (small_zeros _) (by simp) (by rw [h1, valL_zeros])
theorem valL_low {l : List Nat} {j : Nat} (hs : small l) (h : l.drop j = List.replicate (l.length - j) 0) : valL l < 4294967296 ^ j := by
  have h1 := valL_take_drop l j
  rw [h, valL_zeros, Nat.mul_zero, Nat.add_zero] at h1
  have h2 := valL_lt (small_take hs j)
  rw [h1]
  refine Nat.lt_of_lt_of_le h2 (Nat.pow_le_pow_right (by decide) ?_)
  simp; omega
theorem knuth_hi {X V P t g w : Nat} (hP : 0 < P) (hV : w * P ≤ V) (hX : X < (t + 1) * P) (h : t + 1 ≤ g * w) : X < g * V := by
  have h1 : g * (w * P) ≤ g * V := Nat.mul_le_mul_left _ hV
  have h2 : (t + 1) * P ≤ g * w * P := Nat.mul_le_mul_right _ h
  rw [Nat.mul_assoc] at h2
  omega
theorem knuth_lo {X V P t g w : Nat} (hP : 0 < P) (hV : V < (w + 1) * P) (hX : t * P ≤ X) (h : g * w ≤ t) (hg : g ≤ w + 1) : (g - 1) * V ≤ X := by
  cases g with
  | zero => simp
  | succ g =>
    simp only [Nat.add_sub_cancel]
    have h1 : g * V ≤ g * ((w + 1) * P) := Nat.mul_le_mul_left _ (by omega)
    rw [← Nat.mul_assoc] at h1
    have h2 : g * (w + 1) ≤ (g + 1) * w := by rw [Nat.mul_add, Nat.add_mul]; omega
    have h3 : g * (w + 1) * P ≤ t * P := Nat.mul_le_mul_right _ (by omega)
    omega
theorem div_bounds (X P : Nat) (hP : 0 < P) : X / P * P ≤ X ∧ X < (X / P + 1) * P := by
  constructor
  · exact Nat.div_mul_le_self X P
  · rw [Nat.add_mul, Nat.one_mul]; exact Nat.lt_div_mul_add hP
theorem guess_lt {X V g : Nat} (h : X < g * V) : X / V < g := by
  refine Classical.byContradiction fun hc => ?_
  have h1 : g * V ≤ X / V * V := Nat.mul_le_mul_right _ (by omega)
  have := Nat.div_mul_le_self X V
  omega
theorem guess_ge {X V g : Nat} (hV : 0 < V) (h : g * V ≤ X) : g ≤ X / V := by
  rw [Nat.le_div_iff_mul_le hV]; exact h
theorem unshift_digit (X i n : Nat) (hn : n ≤ 32) : (X / 4294967296 ^ i % (4294967296 * 4294967296)) / 2 ^ n % 4294967296 = X / 2 ^ n / 4294967296 ^ i % 4294967296 := by
  rw [Nat.div_div_eq_div_mul X (2 ^ n), Nat.mul_comm (2 ^ n), ← Nat.div_div_eq_div_mul]
  generalize X / 4294967296 ^ i = Y
  obtain ⟨m, hm⟩ : ∃ m, n + m = 32 := ⟨32 - n, by omega⟩
  have e : (4294967296 : Nat) = 2 ^ n * 2 ^ m := by rw [← Nat.pow_add, hm]
  have e1 : Y % (4294967296 * 4294967296) / 2 ^ n = Y / 2 ^ n % (2 ^ m * 4294967296) := by
    rw [show 4294967296 * 4294967296 = 2 ^ n * (2 ^ m * 4294967296) by rw [← Nat.mul_assoc, ← e]]
    rw [Nat.mod_mul_right_div_self]
  rw [e1, Nat.mod_mul_left_mod]
theorem mod_next (X i : Nat) : X % 4294967296 ^ (i + 1) = X % 4294967296 ^ i + 4294967296 ^ i * (X / 4294967296 ^ i % 4294967296) := by
  rw [Nat.pow_succ, Nat.mod_mul]
end Go.Fw
namespace Go.Fw
open Go
def iV (g : Bool) (m : List UInt8) : Value := .agg #[.bool g, .string (bs m)]
def ival (g : Bool) (m : List UInt8) : Int := if g then -(valB m : Int) else (valB m : Int)
def mkI (z : Int) : Value := iV (decide (z < 0)) (digB z.natAbs)
def qV (g : Bool) (n d : List UInt8) : Value := .agg #[.bool g, .string (bs n), .string (bs d)]
def dval (d : List UInt8) : Nat := if valB d = 0 then 1 else valB d
def qval (g : Bool) (n d : List UInt8) : Rat := mkRat (ival g n) (dval d)
def denB (d : Nat) : List UInt8 := if d = 1 then [] else digB d
def mkQ (q : Rat) : Value := qV (decide (q.num < 0)) (digB q.num.natAbs) (denB q.den)
theorem ival_abs (g : Bool) (m : List UInt8) : (ival g m).natAbs = valB m := by unfold ival; split <;> simp
theorem ival_mk (z : Int) : ival (decide (z < 0)) (digB z.natAbs) = z := by
  unfold ival
  rw [valB_dig]
  by_cases h : z < 0
  · simp only [h, decide_true, if_true]; omega
  · simp only [h, decide_false, Bool.false_eq_true, if_false]; omega
theorem dval_pos (d : List UInt8) : 0 < dval d := by unfold dval; split <;> omega
theorem dval_den {d : Nat} (h : d ≠ 0) : dval (denB d) = d := by
  unfold dval denB
  by_cases h1 : d = 1
  · subst h1; rfl
  · simp [h1, valB_dig, h]
theorem qval_mk (q : Rat) : qval (decide (q.num < 0)) (digB q.num.natAbs) (denB q.den) = q := by
  unfold qval
  rw [ival_mk, dval_den q.den_nz]
  exact Rat.mkRat_self q
def sgn (z : Int) : Int := if z < 0 then -1 else if 0 < z then 1 else 0
end Go.Fw
namespace Go.Fw
open Go
theorem gcd_fdiv (z : Int) (g : Nat) (hg : 0 < g) : z.fdiv (g : Int) = z / (g : Int) := Int.fdiv_eq_ediv_of_nonneg _ (by omega)
theorem mkRat_num' (n : Int) {d : Nat} (hd : 0 < d) : (mkRat n d).num = n / ((Nat.gcd n.natAbs d : Nat) : Int) := by
  rw [Rat.num_mkRat, if_neg (by omega), Nat.gcd_comm]
theorem mkRat_den' (n : Int) {d : Nat} (hd : 0 < d) : (mkRat n d).den = d / (Nat.gcd n.natAbs d) := by
  rw [Rat.den_mkRat, if_neg (by omega), Nat.gcd_comm]
theorem mkRat_neg_iff (n : Int) {d : Nat} (hd : 0 < d) : (mkRat n d).num < 0 ↔ n < 0 := by
  rw [mkRat_num' n hd]
  have hg : 0 < Nat.gcd n.natAbs d := Nat.gcd_pos_of_pos_right _ hd
  constructor
  · intro h
    exact Int.lt_of_not_ge fun h0 => by have := Int.ediv_nonneg h0 (show (0 : Int) ≤ ((Nat.gcd n.natAbs d : Nat) : Int) by omega); omega
  · intro h
    exact Int.ediv_neg_of_neg_of_pos h (by omega)
theorem mkQ_zero : mkQ 0 = qV false [] [] := by
  unfold mkQ
  rw [show (0 : Rat).num = 0 from rfl, show (0 : Rat).den = 1 from rfl]
  rw [show (0 : Int).natAbs = 0 from rfl, digB_zero]
  rfl
theorem qV_inj {g g' : Bool} {n n' d d' : List UInt8} : qV g n d = qV g' n' d' ↔ g = g' ∧ n = n' ∧ d = d' := by
  unfold qV
  constructor
  · intro h
    injection h with h
    injection h with h
    injection h with h1 h2
    injection h2 with h2 h3
    injection h3 with h3 _
    injection h1 with h1
    injection h2 with h2
    injection h3 with h3
    exact ⟨h1, bs_inj.1 h2, bs_inj.1 h3⟩
  · rintro ⟨rfl, rfl, rfl⟩; rfl
theorem mkQ_inj {x y : Rat} : mkQ x = mkQ y ↔ x = y := by
  constructor
  · intro h
    have ⟨h1, h2, h3⟩ := qV_inj.1 h
    have e1 := qval_mk x
    have e2 := qval_mk y
    rw [h1, h2, h3] at e1
    exact e1.symm.trans e2
  · rintro rfl; rfl
structure Sz (q : Rat) (k : Nat) : Prop where
  num : q.num.natAbs < 2 ^ k
  den : q.den < 2 ^ k
theorem Sz.mono {q : Rat} {k k' : Nat} (h : Sz q k) (hk : k ≤ k') : Sz q k' :=
  ⟨Nat.lt_of_lt_of_le h.num (Nat.pow_le_pow_right (by decide) hk), Nat.lt_of_lt_of_le h.den (Nat.pow_le_pow_right (by decide) hk)⟩
theorem mkRat_le (n : Int) {d : Nat} (hd : 0 < d) : (mkRat n d).num.natAbs ≤ n.natAbs ∧ (mkRat n d).den ≤ d := by
  rw [mkRat_num' n hd, mkRat_den' n hd]
  have hg : 0 < Nat.gcd n.natAbs d := Nat.gcd_pos_of_pos_right _ hd
  refine ⟨?_, Nat.div_le_self _ _⟩
  have hdv : ((Nat.gcd n.natAbs d : Nat) : Int) ∣ n := by
    exact Int.ofNat_dvd_left.2 (Nat.gcd_dvd_left _ _)
  rw [Int.natAbs_ediv_of_dvd hdv]
  exact Nat.div_le_self _ _
theorem Sz.of {n : Int} {d k : Nat} (hd : 0 < d) (h1 : n.natAbs < 2 ^ k) (h2 : d < 2 ^ k) : Sz (mkRat n d) k :=
  let ⟨h3, h4⟩ := mkRat_le n hd
  ⟨by omega, by omega⟩
theorem Sz.neg {q : Rat} {k : Nat} (h : Sz q k) : Sz (-q) k := ⟨by rw [Rat.neg_num, Int.natAbs_neg]; exact h.num, by rw [Rat.neg_den]; exact h.den⟩
theorem add_eq (a b : Rat) : a + b = mkRat (a.num * b.den + b.num * a.den) (a.den * b.den) := by
  conv => lhs; rw [← Rat.mkRat_self a, ← Rat.mkRat_self b]
  exact Rat.mkRat_add_mkRat _ _ a.den_nz b.den_nz
theorem mul_eq (a b : Rat) : a * b = mkRat (a.num * b.num) (a.den * b.den) := by
  conv => lhs; rw [← Rat.mkRat_self a, ← Rat.mkRat_self b]
  exact Rat.mkRat_mul_mkRat _ _ _ _
theorem lt_mul_pow {a b j k : Nat} (ha : a < 2 ^ j) (hb : b < 2 ^ k) : a * b < 2 ^ (j + k) := by
  rw [Nat.pow_add]; exact Nat.mul_lt_mul'' ha hb
theorem Sz.add {a b : Rat} {j k : Nat} (ha : Sz a j) (hb : Sz b k) : Sz (a + b) (j + k + 1) := by
  rw [add_eq]
  refine Sz.of (Nat.mul_pos a.den_pos b.den_pos) ?_ ?_
  · have h1 := lt_mul_pow ha.num hb.den
    have h2 := lt_mul_pow hb.num ha.den
    have := Int.natAbs_add_le (a.num * b.den) (b.num * a.den)
    rw [Int.natAbs_mul, Int.natAbs_mul, Int.natAbs_natCast, Int.natAbs_natCast] at this
    rw [Nat.add_comm k j] at h2
    rw [Nat.pow_succ]
    omega
  · have := lt_mul_pow ha.den hb.den
    rw [Nat.pow_succ]; omega
theorem Sz.mul {a b : Rat} {j k : Nat} (ha : Sz a j) (hb : Sz b k) : Sz (a * b) (j + k) := by
  rw [mul_eq]
  refine Sz.of (Nat.mul_pos a.den_pos b.den_pos) ?_ (lt_mul_pow ha.den hb.den)
  rw [Int.natAbs_mul]; exact lt_mul_pow ha.num hb.num
theorem Sz.sub {a b : Rat} {j k : Nat} (ha : Sz a j) (hb : Sz b k) : Sz (a - b) (j + k + 1) := by rw [Rat.sub_eq_add_neg]; exact ha.add hb.neg
theorem Sz.inv {a : Rat} {k : Nat} (ha : Sz a k) (hk : 0 < k) : Sz a⁻¹ k := by
  by_cases h0 : a = 0
  · subst h0
    rw [Rat.inv_zero]; exact ha
  have hn : a.num ≠ 0 := fun h => h0 (Rat.num_eq_zero.1 h)
  rcases Int.lt_trichotomy 0 a.num with h | h | h
  · have : a⁻¹ = mkRat a.den a.num.natAbs := by
      rw [Rat.inv_def]
      obtain ⟨m, hm⟩ : ∃ m : Nat, a.num = m := ⟨a.num.natAbs, by omega⟩
      rw [hm, Rat.divInt_ofNat]; rfl
    rw [this]
    exact Sz.of (by omega) ha.den ha.num
  · exact absurd h.symm hn
  · have : a⁻¹ = mkRat (-a.den) a.num.natAbs := by
      rw [Rat.inv_def]
      obtain ⟨m, hm⟩ : ∃ m : Nat, a.num = -(m : Int) := ⟨a.num.natAbs, by omega⟩
      rw [hm, Rat.divInt_neg', Rat.divInt_ofNat]
      simp
    rw [this]
    exact Sz.of (by omega) (by rw [Int.natAbs_neg]; exact ha.den) ha.num
theorem Sz.div {a b : Rat} {j k : Nat} (ha : Sz a j) (hb : Sz b k) (hk : 0 < k) : Sz (a / b) (j + k) := by
  rw [Rat.div_def]; exact ha.mul (hb.inv hk)
structure QA (g : Bool) (n d : List UInt8) (q : Rat) (k : Nat) : Prop where
  val : qval g n d = q
  num : 8 * n.length ≤ k
  den : 8 * d.length ≤ k
theorem digB_len2 {n k : Nat} (h : n < 2 ^ k) : 8 * (digB n).length ≤ k + 7 := by
  have := digB_len n ((k + 7) / 8) (by
    rw [pow_d]
    exact Nat.lt_of_lt_of_le h (Nat.pow_le_pow_right (by decide) (by omega)))
  omega
theorem denB_len {d k : Nat} (h : d < 2 ^ k) : 8 * (denB d).length ≤ k + 7 := by
  unfold denB
  split
  · simp
  · exact digB_len2 h
theorem Sz.qa {q : Rat} {k : Nat} (h : Sz q k) : QA (decide (q.num < 0)) (digB q.num.natAbs) (denB q.den) q (k + 7) :=
  ⟨qval_mk q, digB_len2 h.num, denB_len h.den⟩
theorem valB_lt2 (m : List UInt8) {k : Nat} (h : 8 * m.length ≤ k) : valB m < 2 ^ k := by
  have := valB_lt m
  rw [pow_d] at this
  exact Nat.lt_of_lt_of_le this (Nat.pow_le_pow_right (by decide) h)
theorem QA.sz {g : Bool} {n d : List UInt8} {q : Rat} {k : Nat} (h : QA g n d q k) : Sz q (k + 1) := by
  rw [← h.val]
  have h1 := valB_lt2 n h.num
  have h2 := valB_lt2 d h.den
  refine Sz.of (dval_pos d) (by rw [ival_abs, Nat.pow_succ]; omega) ?_
  unfold dval
  rw [Nat.pow_succ]
  have : 0 < 2 ^ k := Nat.pow_pos (by decide)
  split <;> omega
def IA (v : Value) (z : Int) (k : Nat) : Prop := ∃ g m, v = iV g m ∧ ival g m = z ∧ 8 * m.length ≤ k
theorem IA.mk {z : Int} {k : Nat} (h : z.natAbs < 2 ^ k) : IA (mkI z) z (k + 7) := ⟨_, _, rfl, ival_mk z, digB_len2 h⟩
theorem IA.raw (g : Bool) (m : List UInt8) {k : Nat} (h : 8 * m.length ≤ k) : IA (iV g m) (ival g m) k := ⟨g, m, rfl, rfl, h⟩
theorem IA.sz {v : Value} {z : Int} {k : Nat} (h : IA v z k) : z.natAbs < 2 ^ k := by
  obtain ⟨g, m, rfl, rfl, h⟩ := h
  rw [ival_abs]; exact valB_lt2 m h
theorem IA.mono {v : Value} {z : Int} {k k' : Nat} (h : IA v z k) (hk : k ≤ k') : IA v z k' := by
  obtain ⟨g, m, h1, h2, h3⟩ := h
  exact ⟨g, m, h1, h2, by omega⟩
def QV (v : Value) (q : Rat) (k : Nat) : Prop := ∃ g n d, v = qV g n d ∧ qval g n d = q ∧ 8 * n.length ≤ k ∧ 8 * d.length ≤ k
theorem QV.raw (g : Bool) (n d : List UInt8) {k : Nat} (h : 8 * n.length ≤ k) (h' : 8 * d.length ≤ k) : QV (qV g n d) (qval g n d) k := ⟨g, n, d, rfl, rfl, h, h'⟩
theorem Sz.qv {q : Rat} {k : Nat} (h : Sz q k) : QV (mkQ q) q (k + 7) := ⟨_, _, _, rfl, qval_mk q, digB_len2 h.num, denB_len h.den⟩
theorem QV.sz {v : Value} {q : Rat} {k : Nat} (h : QV v q k) : Sz q (k + 1) := by
  obtain ⟨g, n, d, rfl, h1, h2, h3⟩ := h
  exact QA.sz ⟨h1, h2, h3⟩
theorem QV.mono {v : Value} {q : Rat} {k k' : Nat} (h : QV v q k) (hk : k ≤ k') : QV v q k' := by
  obtain ⟨g, n, d, h1, h2, h3, h4⟩ := h
  exact ⟨g, n, d, h1, h2, by omega, by omega⟩
def fV (g : Bool) (n : List UInt8) (g' : Bool) (d : List UInt8) : Value := .agg #[.bool g, .string (bs n), .bool g', .string (bs d)]
def FV (v : Value) (n d : Int) (k : Nat) : Prop := ∃ g m g' m', v = fV g m g' m' ∧ ival g m = n ∧ ival g' m' = d ∧ 8 * m.length ≤ k ∧ 8 * m'.length ≤ k
def ofV (g : Bool) (n d : List UInt8) : Value := fV g n false (if valB d = 0 then digB 1 else d)
theorem ofV_FV (g : Bool) (n d : List UInt8) {k : Nat} (h : 8 * n.length ≤ k) (h' : 8 * d.length ≤ k) (hk : 8 ≤ k) : FV (ofV g n d) (ival g n) (dval d) k := by
  refine ⟨_, _, _, _, rfl, rfl, ?_, h, ?_⟩
  · unfold ival dval
    by_cases h0 : valB d = 0
    · simp only [h0, if_true]; rw [valB_dig]; rfl
    · simp only [h0, if_false]; rfl
  · by_cases h0 : valB d = 0
    · simp only [h0, if_true]
      have := digB_len2 (n := 1) (k := 1) (by decide)
      omega
    · simp only [h0, if_false]; exact h'
theorem FV.mk {x y : Int} {k : Nat} (hx : x.natAbs < 2 ^ k) (hy : y.natAbs < 2 ^ k) : FV (fV (decide (x < 0)) (digB x.natAbs) (decide (y < 0)) (digB y.natAbs)) x y (k + 7) :=
  ⟨_, _, _, _, rfl, ival_mk x, ival_mk y, digB_len2 hx, digB_len2 hy⟩
theorem mkQ_pos {n : Int} {d : Nat} (hd : 0 < d) : mkQ (mkRat n d) = qV (decide (n < 0)) (digB (n / ((Nat.gcd n.natAbs d : Nat) : Int)).natAbs) (denB (d / Nat.gcd n.natAbs d)) := by
  unfold mkQ
  simp only [mkRat_neg_iff n hd]
  rw [mkRat_num' n hd, mkRat_den' n hd]
def rV (g : Bool) (n d : List UInt8) (g' : Bool) (n' d' : List UInt8) : Value := .agg #[.bool g, .string (bs n), .string (bs d), .bool g', .string (bs n'), .string (bs d')]
def mkR (c s : Rat) : Value := rV (decide (c.num < 0)) (digB c.num.natAbs) (denB c.den) (decide (s.num < 0)) (digB s.num.natAbs) (denB s.den)
theorem mkRat_one (n : Int) : mkRat n 1 = (n : Rat) := by
  rw [Rat.mkRat_eq_div]
  have : ((1 : Nat) : Rat) = 1 := rfl
  rw [this]
  grind
def isCan (g : Bool) (n d : List UInt8) : Bool := decide (g = decide ((qval g n d).num < 0) ∧ n = digB (qval g n d).num.natAbs ∧ d = denB (qval g n d).den)
theorem isCan_iff (g : Bool) (n d : List UInt8) : isCan g n d = true ↔ qV g n d = mkQ (qval g n d) := by
  unfold isCan mkQ
  rw [qV_inj, decide_eq_true_eq]
theorem isCan_mk (q : Rat) : isCan (decide (q.num < 0)) (digB q.num.natAbs) (denB q.den) = true := by
  rw [isCan_iff, qval_mk]; rfl
theorem bs_beq (n n' : List UInt8) : (bs n == bs n') = decide (n = n') := by
  have e : (bs n == bs n') = (n.toArray == n'.toArray) := rfl
  rw [e]
  by_cases h : n = n'
  · simp [h]
  · simp [h]
end Go.Fw
namespace Go.Fw
open Go
def cmpQ (a b : Rat) : Int := if a < b then -1 else if b < a then 1 else 0
theorem natCast_pos {d : Nat} (hd : 0 < d) : (0 : Rat) < (d : Rat) := by
  have := (Rat.natCast_lt_natCast (a := 0) (b := d)).2 hd
  simpa using this
theorem mkRat_lt {n m : Int} {d e : Nat} (hd : 0 < d) (he : 0 < e) : mkRat n d < mkRat m e ↔ n * (e : Int) < m * (d : Int) := by
  have h1 := natCast_pos hd
  have h2 := natCast_pos he
  rw [Rat.mkRat_eq_div, Rat.mkRat_eq_div, Rat.div_lt_iff h1]
  have e1 : (m : Rat) / (e : Rat) * (d : Rat) = ((m : Rat) * (d : Rat)) / (e : Rat) := by grind
  rw [e1, Rat.lt_div_iff h2, ← Rat.intCast_lt_intCast]
  simp only [Rat.intCast_mul, Rat.intCast_natCast]
theorem mkRat_cmp {n m : Int} {d e : Nat} (hd : 0 < d) (he : 0 < e) : cmpQ (mkRat n d) (mkRat m e) = sgn (n * (e : Int) - m * (d : Int)) := by
  unfold cmpQ sgn
  simp only [mkRat_lt hd he, mkRat_lt he hd]
  generalize n * (e : Int) = x
  generalize m * (d : Int) = y
  by_cases h1 : x < y
  · have : x - y < 0 := by omega
    simp only [h1, this, if_true]
  · have : ¬ x - y < 0 := by omega
    simp only [h1, this, if_false]
    by_cases h2 : y < x
    · have : 0 < x - y := by omega
      simp only [h2, this, if_true]
    · have : ¬ 0 < x - y := by omega
      simp only [h2, this, if_false]
theorem quo_pos {n m : Int} {d e : Nat} (hd : 0 < d) (he : 0 < e) (hm : 0 < m) : mkRat n d / mkRat m e = mkRat (n * e) (d * m.natAbs) := by
  obtain ⟨k, rfl⟩ : ∃ k : Nat, m = k := ⟨m.natAbs, by omega⟩
  rw [Rat.mkRat_eq_div, Rat.mkRat_eq_div, Rat.mkRat_eq_div]
  have h1 := natCast_pos hd
  have h2 := natCast_pos he
  have h3 := natCast_pos (show 0 < k by omega)
  simp only [Rat.intCast_mul, Rat.natCast_mul, Int.natAbs_natCast, Rat.intCast_natCast]
  grind
theorem quo_neg {n m : Int} {d e : Nat} (hd : 0 < d) (he : 0 < e) (hm : m < 0) : mkRat n d / mkRat m e = mkRat (-(n * e)) (d * m.natAbs) := by
  obtain ⟨k, rfl⟩ : ∃ k : Nat, m = -(k : Int) := ⟨m.natAbs, by omega⟩
  rw [Rat.mkRat_eq_div, Rat.mkRat_eq_div, Rat.mkRat_eq_div]
  have h1 := natCast_pos hd
  have h2 := natCast_pos he
  have h3 := natCast_pos (show 0 < k by omega)
  simp only [Rat.intCast_mul, Rat.natCast_mul, Int.natAbs_natCast, Rat.intCast_natCast, Int.natAbs_neg, Rat.intCast_neg]
  grind
theorem mkRat_ne {n : Int} {d : Nat} (hd : 0 < d) : mkRat n d = 0 ↔ n = 0 := Rat.mkRat_eq_zero (by omega)
structure Rot where
  c : Rat
  s : Rat
deriving DecidableEq
def Rot.ok (r : Rot) : Prop := r.c * r.c + r.s * r.s = 1
instance (r : Rot) : Decidable r.ok := inferInstanceAs (Decidable (_ = _))
def Rot.half (r : Rot) : Int := if 0 < r.s then 0 else if r.s < 0 then 1 else if r.c < 0 then 1 else 0
def Rot.thn (a b : Rot) : Rot := ⟨a.c * b.c - a.s * b.s, a.s * b.c + a.c * b.s⟩
def Rot.back (a : Rot) : Rot := ⟨a.c, -a.s⟩
def Rot.cmp (a b : Rot) : Int := if a.half - b.half ≠ 0 then a.half - b.half else cmpQ (Rot.thn b.back a).s 0
def Rot.lt (a b : Rot) : Prop := a.cmp b < 0
theorem Rot.thn_ok {a b : Rot} (ha : a.ok) (hb : b.ok) : (a.thn b).ok := by
  unfold Rot.ok Rot.thn at *
  grind
theorem Rot.back_ok {a : Rot} (ha : a.ok) : a.back.ok := by unfold Rot.ok Rot.back at *; grind
theorem Rot.ext' {a b : Rot} (h1 : a.c = b.c) (h2 : a.s = b.s) : a = b := by cases a; cases b; simp_all
theorem Rot.half_cases (r : Rot) : (r.half = 0 ∧ (0 < r.s ∨ (r.s = 0 ∧ 0 ≤ r.c))) ∨ (r.half = 1 ∧ (r.s < 0 ∨ (r.s = 0 ∧ r.c < 0))) := by
  unfold Rot.half
  split
  · exact .inl ⟨rfl, .inl ‹_›⟩
  · split
    · exact .inr ⟨rfl, .inl ‹_›⟩
    · have : r.s = 0 := by grind
      split
      · exact .inr ⟨rfl, .inr ⟨this, ‹_›⟩⟩
      · exact .inl ⟨rfl, .inr ⟨this, by grind⟩⟩
theorem cmpQ_zero_neg {x : Rat} : cmpQ x 0 < 0 ↔ x < 0 := by
  unfold cmpQ
  by_cases h1 : x < 0
  · rw [if_pos h1]; grind
  · rw [if_neg h1]
    by_cases h2 : 0 < x
    · rw [if_pos h2]; grind
    · rw [if_neg h2]; grind
theorem cmpQ_zero_eq {x : Rat} : cmpQ x 0 = 0 ↔ x = 0 := by
  unfold cmpQ
  by_cases h1 : x < 0
  · rw [if_pos h1]; grind
  · rw [if_neg h1]
    by_cases h2 : 0 < x
    · rw [if_pos h2]; grind
    · rw [if_neg h2]; grind
end Go.Fw
namespace Go.Fw
open Go
def Rot.cross (a b : Rot) : Rat := a.c * b.s - a.s * b.c
theorem Rot.cmp_cross (a b : Rot) : (Rot.thn b.back a).s = -(a.cross b) := by unfold Rot.thn Rot.back Rot.cross; grind
theorem Rot.cross_anti (a b : Rot) : a.cross b = -(b.cross a) := by unfold Rot.cross; grind
theorem Rot.cross_zero {a b : Rot} (ha : a.ok) (hb : b.ok) (h : a.cross b = 0) (hh : a.half = b.half) : a = b := by
  have hd : (a.c * b.c + a.s * b.s) * (a.c * b.c + a.s * b.s) = 1 := by unfold Rot.ok Rot.cross at *; grind
  have h1 : a.c = (a.c * b.c + a.s * b.s) * b.c := by unfold Rot.ok Rot.cross at *; grind
  have h2 : a.s = (a.c * b.c + a.s * b.s) * b.s := by unfold Rot.ok Rot.cross at *; grind
  generalize a.c * b.c + a.s * b.s = d at *
  have hd2 : d = 1 ∨ d = -1 := by
    have : (d - 1) * (d + 1) = 0 := by grind
    rcases Rat.mul_eq_zero.1 this with h | h
    · left; grind
    · right; grind
  rcases hd2 with rfl | rfl
  · exact Rot.ext' (by grind) (by grind)
  · exfalso
    have e1 : a.c = -b.c := by grind
    have e2 : a.s = -b.s := by grind
    unfold Rot.ok at *
    rcases a.half_cases with ⟨x1, x2⟩ | ⟨x1, x2⟩ <;> rcases b.half_cases with ⟨y1, y2⟩ | ⟨y1, y2⟩
    · rcases x2 with x2 | ⟨x2, x3⟩ <;> rcases y2 with y2 | ⟨y2, y3⟩ <;> first | grind | (have : b.c = 0 := by grind); grind
    · omega
    · omega
    · rcases x2 with x2 | ⟨x2, x3⟩ <;> rcases y2 with y2 | ⟨y2, y3⟩ <;> grind
theorem Rot.half_le (r : Rot) : r.half = 0 ∨ r.half = 1 := by rcases r.half_cases with h | h <;> simp [h.1]
theorem Rot.cmp_same {a b : Rot} (h : a.half = b.half) : a.cmp b = cmpQ (-(a.cross b)) 0 := by
  unfold Rot.cmp
  rw [if_neg (by omega), Rot.cmp_cross]
theorem Rot.cmp_diff {a b : Rot} (h : a.half ≠ b.half) : a.cmp b = a.half - b.half := by
  unfold Rot.cmp
  rw [if_pos (by omega)]
theorem Rot.cmp_zero {a b : Rot} (ha : a.ok) (hb : b.ok) : a.cmp b = 0 ↔ a = b := by
  by_cases h : a.half = b.half
  · rw [Rot.cmp_same h, cmpQ_zero_eq]
    constructor
    · intro h0; exact Rot.cross_zero ha hb (by grind) h
    · rintro rfl; unfold Rot.cross; grind
  · rw [Rot.cmp_diff h]
    constructor
    · intro h0; omega
    · rintro rfl; exact absurd rfl h
theorem Rot.cross_trans {a b c : Rot} (ha : a.ok) (hb : b.ok) (hc : c.ok) (h1 : a.half = b.half) (h2 : b.half = c.half) (h3 : 0 < a.cross b) (h4 : 0 < b.cross c) : 0 < a.cross c := by
  have id : b.s * a.cross c = a.s * b.cross c + c.s * a.cross b := by unfold Rot.cross; grind
  rcases b.half_cases with ⟨y1, y2⟩ | ⟨y1, y2⟩
  · have as : 0 ≤ a.s := by rcases a.half_cases with ⟨x1, x2⟩ | ⟨x1, x2⟩ <;> first | omega | grind
    have hbs : 0 < b.s := by
      rcases y2 with y2 | ⟨y2, y3⟩
      · exact y2
      · exfalso
        have : a.cross b = -(a.s * b.c) := by unfold Rot.cross; grind
        have : 0 ≤ a.s * b.c := Rat.mul_nonneg as y3
        grind
    have cs : 0 < c.s := by
      rcases c.half_cases with ⟨x1, x2⟩ | ⟨x1, x2⟩
      · rcases x2 with x2 | ⟨x2, x3⟩
        · exact x2
        · exfalso
          have : b.cross c = -(b.s * c.c) := by unfold Rot.cross; grind
          have : 0 ≤ b.s * c.c := Rat.mul_nonneg (by grind) x3
          grind
      · omega
    have p1 : 0 ≤ a.s * b.cross c := Rat.mul_nonneg as (by grind)
    have p2 : 0 < c.s * a.cross b := Rat.mul_pos cs h3
    exact (Rat.mul_pos_iff_of_pos_left hbs).1 (by grind)
  · have as : a.s ≤ 0 := by rcases a.half_cases with ⟨x1, x2⟩ | ⟨x1, x2⟩ <;> first | omega | grind
    have hbs : b.s < 0 := by
      rcases y2 with y2 | ⟨y2, y3⟩
      · exact y2
      · exfalso
        have : a.cross b = -(-a.s * -b.c) := by unfold Rot.cross; grind
        have : 0 ≤ -a.s * -b.c := Rat.mul_nonneg (by grind) (by grind)
        grind
    have cs : c.s < 0 := by
      rcases c.half_cases with ⟨x1, x2⟩ | ⟨x1, x2⟩
      · omega
      · rcases x2 with x2 | ⟨x2, x3⟩
        · exact x2
        · exfalso
          have : b.cross c = -(-b.s * -c.c) := by unfold Rot.cross; grind
          have : 0 ≤ -b.s * -c.c := Rat.mul_nonneg (by grind) (by grind)
          grind
    have p1 : 0 ≤ -a.s * b.cross c := Rat.mul_nonneg (by grind) (by grind)
    have p2 : 0 < -c.s * a.cross b := Rat.mul_pos (by grind) h3
    exact (Rat.mul_pos_iff_of_pos_left (a := -b.s) (by grind)).1 (by grind)
theorem Rot.lt_trans {a b c : Rot} (ha : a.ok) (hb : b.ok) (hc : c.ok) (h1 : a.lt b) (h2 : b.lt c) : a.lt c := by
  unfold Rot.lt at *
  have x := a.half_le
  have y := b.half_le
  have z := c.half_le
  by_cases e1 : a.half = b.half <;> by_cases e2 : b.half = c.half
  · rw [Rot.cmp_same e1, cmpQ_zero_neg] at h1
    rw [Rot.cmp_same e2, cmpQ_zero_neg] at h2
    rw [Rot.cmp_same (e1.trans e2), cmpQ_zero_neg]
    have := Rot.cross_trans ha hb hc e1 e2 (by grind) (by grind)
    grind
  · rw [Rot.cmp_diff e2] at h2
    rw [Rot.cmp_diff (by omega)]; omega
  · rw [Rot.cmp_diff e1] at h1
    rw [Rot.cmp_diff (by omega)]; omega
  · rw [Rot.cmp_diff e1] at h1
    rw [Rot.cmp_diff e2] at h2
    omega
theorem Rot.lt_irrefl {a : Rot} (ha : a.ok) : ¬ a.lt a := by
  unfold Rot.lt
  rw [(Rot.cmp_zero ha ha).2 rfl]; omega
end Go.Fw
namespace Go.Fw
open Go
def simpQ : Nat → Rat → Rat → Rat
  | 0, _, _ => 0
  | n + 1, a, b => if (a.ceil : Rat) ≤ b then (a.ceil : Rat) else
      ((a.ceil - 1 : Int) : Rat) + 1 / simpQ n (1 / (b - ((a.ceil - 1 : Int) : Rat))) (1 / (a - ((a.ceil - 1 : Int) : Rat)))
theorem num_pos' {q : Rat} : 0 < q.num ↔ 0 < q := by rw [Rat.lt_iff]; simp
theorem inv_den {q : Rat} (h : 0 < q) : (1 / q).den = q.num.natAbs ∧ (1 / q).num = q.den := by
  have hn : 0 < q.num := num_pos'.2 h
  have e : 1 / q = mkRat q.den q.num.natAbs := by
    rw [Rat.div_def, Rat.one_mul, Rat.inv_def]
    obtain ⟨m, hm⟩ : ∃ m : Nat, q.num = m := ⟨q.num.natAbs, by omega⟩
    rw [hm, Rat.divInt_ofNat]; rfl
  rw [e, mkRat_num' _ (by omega), mkRat_den' _ (by omega)]
  have hg : Nat.gcd (q.den : Int).natAbs q.num.natAbs = 1 := by
    rw [Int.natAbs_natCast, Nat.gcd_comm]; exact q.reduced
  rw [hg]
  simp
theorem sub_int_den (q : Rat) (z : Int) : (q - (z : Rat)).den = q.den ∧ (q - (z : Rat)).num = q.num - z * q.den := by
  have e : q - (z : Rat) = mkRat (q.num - z * q.den) q.den := by
    have h := natCast_pos q.den_pos
    rw [Rat.mkRat_eq_div, Rat.intCast_sub, Rat.intCast_mul, Rat.intCast_natCast]
    have : q = (q.num : Rat) / (q.den : Rat) := by rw [← Rat.mkRat_eq_div, Rat.mkRat_self]
    generalize (q.num : Rat) = n at *
    generalize (q.den : Rat) = d at *
    subst this
    grind
  have hg : Nat.gcd (q.num - z * q.den).natAbs q.den = 1 := by
    have h1 : Nat.gcd q.num.natAbs q.den = 1 := q.reduced
    have h2 : Int.gcd (q.num - z * q.den) q.den = Int.gcd q.num q.den := by
      rw [Int.gcd_comm, Int.gcd_comm q.num]
      have : q.num - z * q.den = q.num + (-z) * q.den := by grind
      rw [this, Int.gcd_add_mul_right_right]
    simpa [Int.gcd] using h2.trans h1
  rw [e, mkRat_num' _ q.den_pos, mkRat_den' _ q.den_pos, hg]
  simp
theorem ceil_bounds (a : Rat) : ((a.ceil - 1 : Int) : Rat) < a ∧ a ≤ (a.ceil : Rat) := ⟨Rat.lt_ceil_iff.1 (by omega), Rat.ceil_le_iff.1 (by omega)⟩
structure Simp (a b : Rat) (l : Int) : Prop where
  pos : 0 < 1 / (b - (l : Rat))
  le : 1 / (b - (l : Rat)) ≤ 1 / (a - (l : Rat))
  da : (1 / (a - (l : Rat))).den < a.den
  db : (1 / (b - (l : Rat))).den < b.den
  na : (1 / (a - (l : Rat))).num = a.den
  nb : (1 / (b - (l : Rat))).num = b.den
  va : (((1 / (a - (l : Rat))).den : Nat) : Int) = a.num - l * a.den
  vb : (((1 / (b - (l : Rat))).den : Nat) : Int) = b.num - l * b.den
theorem Simp.of {a b : Rat} (ha : 0 < a) (hab : a ≤ b) (h : ¬ (a.ceil : Rat) ≤ b) : Simp a b (a.ceil - 1) := by
  obtain ⟨h1, h2⟩ := ceil_bounds a
  generalize hl : a.ceil - 1 = l at *
  have hc : (a.ceil : Rat) = (l : Rat) + 1 := by
    rw [show a.ceil = l + 1 by omega, Rat.intCast_add]; rfl
  rw [hc] at h h2
  have p1 : 0 < a - (l : Rat) := by grind
  have p2 : 0 < b - (l : Rat) := by grind
  have s1 : a - (l : Rat) < 1 := by grind
  have s2 : b - (l : Rat) < 1 := by grind
  have ⟨i1, i2⟩ := inv_den p1
  have ⟨j1, j2⟩ := inv_den p2
  have ⟨d1, n1⟩ := sub_int_den a l
  have ⟨d2, n2⟩ := sub_int_den b l
  have q1 := num_pos'.2 p1
  have q2 := num_pos'.2 p2
  have r1 : (a - (l : Rat)).num < (a - (l : Rat)).den := by
    have := (Rat.lt_iff _ _).1 s1
    simpa using this
  have r2 : (b - (l : Rat)).num < (b - (l : Rat)).den := by
    have := (Rat.lt_iff _ _).1 s2
    simpa using this
  have ip : ∀ x : Rat, 0 < x → 0 < 1 / x := fun x hx => by
    rw [Rat.lt_div_iff hx]; grind
  refine ⟨ip _ p2, ?_, ?_, ?_, ?_, ?_, ?_, ?_⟩
  · have := ip _ p1
    have := ip _ p2
    refine Rat.not_lt.1 fun hlt => ?_
    rw [Rat.div_lt_iff p1] at hlt
    have e : 1 / (b - (l : Rat)) * (b - (l : Rat)) = 1 := by grind
    have : 1 / (b - (l : Rat)) * (a - (l : Rat)) ≤ 1 / (b - (l : Rat)) * (b - (l : Rat)) := Rat.mul_le_mul_of_nonneg_left (by grind) (by grind)
    grind
  all_goals omega
theorem ceil_num {a : Rat} (ha : 0 < a) : 0 < a.ceil ∧ a.ceil ≤ a.num := by
  have hn := num_pos'.2 ha
  have hd := a.den_pos
  constructor
  · exact Rat.lt_ceil_iff.2 (by simpa using ha)
  · rw [Rat.ceil_le_iff, Rat.le_iff]
    simp
    have : a.num * 1 ≤ a.num * a.den := Int.mul_le_mul_of_nonneg_left (by omega) (by omega)
    simpa using this
theorem int_le_num {b : Rat} {z : Int} (hb : 0 < b) (h : (z : Rat) ≤ b) : z ≤ b.num := by
  have hn := num_pos'.2 hb
  have hd := b.den_pos
  rw [Rat.le_iff] at h
  simp at h
  rcases Int.lt_or_le 0 z with h0 | h0
  · have : z * 1 ≤ z * b.den := Int.mul_le_mul_of_nonneg_left (by omega) (by omega)
    omega
  · omega
theorem simpQ_small : ∀ (n : Nat) (a b : Rat), 0 < a → a ≤ b → a.den + b.den ≤ n → 0 < simpQ n a b ∧ (simpQ n a b).num ≤ a.num ∧ (simpQ n a b).num ≤ b.num ∧ (simpQ n a b).den ≤ a.den ∧ (simpQ n a b).den ≤ b.den := by
  intro n
  induction n with
  | zero => intro a b ha hab hn; have := a.den_pos; omega
  | succ n ih =>
    intro a b ha hab hn
    have hb : 0 < b := by grind
    unfold simpQ
    obtain ⟨c1, c2⟩ := ceil_num ha
    split
    · rename_i h
      have c3 := int_le_num hb h
      have := a.den_pos
      have := b.den_pos
      refine ⟨by simpa using Rat.intCast_lt_intCast.2 c1, ?_, ?_, ?_, ?_⟩ <;> simp <;> omega
    · rename_i h
      have hs := Simp.of ha hab h
      obtain ⟨k0, k1, k2, k3, k4⟩ := ih _ _ hs.pos hs.le (by have := hs.da; have := hs.db; omega)
      generalize simpQ n (1 / (b - ((a.ceil - 1 : Int) : Rat))) (1 / (a - ((a.ceil - 1 : Int) : Rat))) = r at *
      have hl0 : 0 ≤ a.ceil - 1 := by omega
      generalize hll : a.ceil - 1 = l at *
      have hr := num_pos'.2 k0
      have e : (l : Rat) + 1 / r = mkRat (l * r.num.natAbs + r.den) r.num.natAbs := by
        have h1 := natCast_pos (show 0 < r.num.natAbs by omega)
        rw [Rat.mkRat_eq_div, Rat.intCast_add, Rat.intCast_mul, Rat.intCast_natCast, Rat.intCast_natCast]
        have e1 : r = ((r.num.natAbs : Nat) : Rat) / (r.den : Rat) := by
          conv => lhs; rw [← Rat.mkRat_self r, Rat.mkRat_eq_div]
          rw [← Rat.intCast_natCast r.num.natAbs, show ((r.num.natAbs : Nat) : Int) = r.num by omega]
        have h2 := natCast_pos r.den_pos
        conv => lhs; rw [e1]
        grind
      have hge : 0 < (l : Rat) + 1 / r := by
        have : 0 < 1 / r := by rw [Rat.lt_div_iff k0]; grind
        have : (0 : Rat) ≤ (l : Rat) := by simpa using Rat.intCast_le_intCast.2 hl0
        grind
      obtain ⟨m1, m2⟩ := mkRat_le (l * r.num.natAbs + r.den) (show 0 < r.num.natAbs by omega)
      rw [← e] at m1 m2
      have hp := num_pos'.2 hge
      have na := hs.na
      have nb := hs.nb
      have va := hs.va
      have vb := hs.vb
      have x1 : l * r.num ≤ l * a.den := Int.mul_le_mul_of_nonneg_left (by omega) hl0
      have x2 : l * r.num ≤ l * b.den := Int.mul_le_mul_of_nonneg_left (by omega) hl0
      have x3 : ((r.num.natAbs : Nat) : Int) = r.num := by omega
      rw [x3] at m1
      have x4 : 0 ≤ l * r.num := Int.mul_nonneg hl0 (by omega)
      refine ⟨hge, ?_, ?_, ?_, ?_⟩ <;> omega
theorem cmpQ_le {a b : Rat} : cmpQ a b ≤ 0 ↔ a ≤ b := by
  unfold cmpQ
  by_cases h1 : a < b
  · rw [if_pos h1]; grind
  · rw [if_neg h1]
    by_cases h2 : b < a
    · rw [if_pos h2]; grind
    · rw [if_neg h2]; grind
theorem Sz.int {z : Int} {k : Nat} (h : z.natAbs < 2 ^ k) (hk : 0 < k) : Sz (z : Rat) k := by
  refine ⟨by simpa using h, ?_⟩
  have : 2 ^ 1 ≤ 2 ^ k := Nat.pow_le_pow_right (by decide) hk
  simp; omega
theorem Sz.simp {n k : Nat} {a b : Rat} (ha : 0 < a) (hab : a ≤ b) (hn : a.den + b.den ≤ n) (hs : Sz a k) : Sz (simpQ n a b) k := by
  obtain ⟨h1, h2, h3, h4, h5⟩ := simpQ_small n a b ha hab hn
  have h6 := hs.num
  have h7 := hs.den
  have h8 := num_pos'.2 h1
  exact ⟨by omega, by omega⟩
theorem Simp.sz {a b : Rat} {l : Int} {k : Nat} (h : Simp a b l) (ha : Sz a k) (hb : Sz b k) : Sz (1 / (a - (l : Rat))) k ∧ Sz (1 / (b - (l : Rat))) k := by
  have h1 := h.da
  have h2 := h.db
  have h3 := h.na
  have h4 := h.nb
  have h5 := ha.den
  have h6 := hb.den
  exact ⟨⟨by omega, by omega⟩, ⟨by omega, by omega⟩⟩
theorem Sz.subI {q : Rat} {z : Int} {k : Nat} (hq : Sz q k) (h1 : 0 < q - (z : Rat)) (h2 : q - (z : Rat) < 1) : Sz (q - (z : Rat)) k := by
  obtain ⟨e1, e2⟩ := sub_int_den q z
  have h3 := (Rat.lt_iff _ _).1 h2
  have h4 := num_pos'.2 h1
  have h5 := hq.den
  simp at h3
  exact ⟨by omega, by omega⟩
end Go.Fw
namespace Go.Fw
open Go
section
variable {tt : TT} {S : ACall} {Q : APost} {s : Slots} {H : Heap}
theorem ax_midl (M : Slots → Heap → Prop) {b : Code} {id : Nat} {K : Slots → Heap → Prop} (h1 : Ax tt S (.loop b) (AEx.inBlock id (AEx.thn M Q)) s H) (h2 : ∀ s H, M s H → K s H) : Ax tt S (.loop b) (AEx.inBlock id (AEx.thn K Q)) s H := by
  refine Ax_mono (.loop b) h1 ?_
  intro e s H h
  cases e with
  | normal => exact h2 s H h
  | exit i =>
    by_cases hi : i = id
    · subst hi
      simp only [inb_exit, if_true] at h ⊢
      exact h2 s H h
    · simp only [inb_exit, hi, if_false] at h ⊢
      exact h
  | ret => exact h
end
section
variable {tt : TT} {S : ACall} {q : Nat} {ops : Array Oper} {K : Slots → Heap → Prop} {l : List Oper} {s : Slots} {H : Heap} {dst : Option Tmp} {ty : TypeId} {pos : String} {af : Array Edge}
theorem wl_callX {args : Array Operand} {tys : Array TypeId} {g : FuncId} {R : Value → Heap → Prop} (as : Array Value) (ha : args.map (ev s) = as) (hS : ∃ v H', S (.func g) as H v H' ∧ Ext H H' ∧ R v H')
    (k : ∀ v G, R v (H ++ G) → AxL tt S q ops K l (s.put dst v) (H ++ G)) : AxL tt S q ops K (⟨dst, .call { callee := .value (.func g), args := args, argTypes := tys }, ty, pos, af, none⟩ :: l) s H := by
  obtain ⟨v, _, h1, ⟨G, rfl⟩, h2⟩ := hS
  exact wl_callF as ha h1 (fun _ => ⟨G, rfl⟩) (k v G h2)
theorem wl_callO {f : Operand} {args : Array Operand} {tys : Array TypeId} {v : Value} (g : FuncId) (hf : ev s f = .func (.func g) #[] #[]) (as : Array Value) (ha : args.map (ev s) = as) (hS : S (.func g) as H v H)
    (k : AxL tt S q ops K l (s.put dst v) H) : AxL tt S q ops K (⟨dst, .call { callee := .value f, args := args, argTypes := tys }, ty, pos, af, none⟩ :: l) s H :=
  wl_call (first := #[]) (cap := #[]) hf (by rw [ha]; simpa using hS) (fun _ => ⟨[], by simp⟩) k
theorem wl_callT {args : Array Operand} {tys : Array TypeId} {g : FuncId} {R : Value → Heap → Prop} (as : Array Value) (ha : args.map (ev s) = as) (hS : ∃ v H', S (.func g) as H v H' ∧ Ext H H' ∧ R v H')
    (k : ∀ v T, Ext H T → R v T → AxL tt S q ops K l (s.put dst v) T) : AxL tt S q ops K (⟨dst, .call { callee := .value (.func g), args := args, argTypes := tys }, ty, pos, af, none⟩ :: l) s H := by
  obtain ⟨v, T, h1, he, h2⟩ := hS
  exact wl_callF as ha h1 (fun _ => he) (k v T he h2)
theorem wl_callV {args : Array Operand} {tys : Array TypeId} {g : FuncId} {v : Value} (as : Array Value) (ha : args.map (ev s) = as) (hS : S (.func g) as H v H)
    (k : AxL tt S q ops K l (s.put dst v) H) : AxL tt S q ops K (⟨dst, .call { callee := .value (.func g), args := args, argTypes := tys }, ty, pos, af, none⟩ :: l) s H :=
  wl_callF as ha hS (fun _ => ⟨[], by simp⟩) k
end
theorem flat_ex {P : Program} {f : FuncId} {args : Array Value} {H : Heap} {v : Value} (hf : flat v = true) (h : ∃ w H', Sim P f args H w H' ∧ Ext H H' ∧ w = v) : Sim P f args H v H := by
  obtain ⟨w, H', h1, ⟨G, rfl⟩, rfl⟩ := h
  exact Sim.flat h1 (Calm.refl H) hf
section
variable {tt : TT} {S : ACall} {Q : APost} {s : Slots} {H : Heap}
def AxC (tt : TT) (S : ACall) (x y : Code) (Q : APost) (s : Slots) (H : Heap) (v : Value) : Prop := ∃ b, v = .bool b ∧ if b = true then Ax tt S x Q s H else Ax tt S y Q s H
theorem wa_cond {c : Operand} {x y : Code} : Ax tt S (.cond c x y) Q s H = AxC tt S x y Q s H (ev s c) := rfl
theorem axC_t {x y : Code} : AxC tt S x y Q s H (.bool true) = Ax tt S x Q s H := by
  apply propext
  constructor
  · rintro ⟨b, hb, h⟩
    injection hb with hb
    subst hb
    simpa using h
  · intro h; exact ⟨true, rfl, by simpa using h⟩
theorem axC_f {x y : Code} : AxC tt S x y Q s H (.bool false) = Ax tt S y Q s H := by
  apply propext
  constructor
  · rintro ⟨b, hb, h⟩
    injection hb with hb
    subst hb
    simpa using h
  · intro h; exact ⟨false, rfl, by simpa using h⟩
end
theorem LimAt.set {H : Heap} {b i c : Nat} {l : List Nat} (h : LimAt H b i c l) {b' : Nat} (hb : b ≠ b') (B : Blk) : LimAt (H.set b' B) b i c l := by
  obtain ⟨X, h1, h2⟩ := h.blk
  exact ⟨h.cap, ⟨X, by rw [List.getElem?_set_ne (Ne.symm hb)]; exact h1, h2⟩, h.len⟩
theorem Row.self {T : Heap} {b : Nat} {u : List Nat} (h : Row T b u) : T.set b ⟨u32s u, 1, true⟩ = T := by
  have hl := h.lt
  unfold Row at h
  rw [List.getElem?_eq_some_iff] at h
  obtain ⟨_, h⟩ := h
  rw [← h, List.set_getElem_self]
theorem Row.rdS {T : Heap} {b : Nat} {u o : List Nat} (h : Row T b u) {j : Nat} (hj : j < o.length) : Fw.rd (T.set b ⟨u32s o, 1, true⟩) b j 1 = some [.int .u32 (o[j] : Nat)] :=
  (h.set (o' := o)).rd hj
theorem Row.wrS {T : Heap} {b : Nat} {u o : List Nat} (h : Row T b u) {j x : Nat} (hj : j < o.length) : Fw.wr (T.set b ⟨u32s o, 1, true⟩) b j [.int .u32 (x : Nat)] = some (T.set b ⟨u32s (o.set j x), 1, true⟩) := by
  have := (h.set (o' := o)).wr (x := x) hj
  rw [List.set_set] at this
  exact this
theorem LimAt.lt {H : Heap} {b i c : Nat} {l : List Nat} (h : LimAt H b i c l) : b < H.length := by
  obtain ⟨X, h1, _⟩ := h.blk
  rcases List.getElem?_eq_some_iff.1 h1 with ⟨h, _⟩; exact h
theorem app_lim {H L : Heap} {j c : Nat} {l : List Nat} (h : L[j]? = some ⟨u32s l, 1, true⟩) (hc : c = 0 ∨ l.length ≤ c) (hl : l.length ≤ 1099511627776) : Lim (H ++ L) (.slice (some ⟨H.length + j, 0, none⟩) l.length c) l := by
  refine .inr ⟨_, _, _, rfl, hc, ⟨⟨u32s l, 1, true⟩, ?_, rfl, ?_, ?_⟩, hl⟩
  · rw [List.getElem?_append_right (by omega), show H.length + j - H.length = j by omega]; exact h
  · simp [u32s_length]
  · simp [← u32s_length]
theorem valB_take_succ {m : List UInt8} {i : Nat} (h : i < m.length) : valB (m.take (i + 1)) = valB (m.take i) * 256 + m[i].toNat := by
  rw [List.take_add_one, List.getElem?_eq_getElem h, Option.toList_some, valB_snoc]
theorem valB_take_lt (m : List UInt8) (i : Nat) : valB (m.take i) < 256 ^ i := by
  refine Nat.lt_of_lt_of_le (valB_lt _) (Nat.pow_le_pow_right (by decide) (by simp; omega))
def noU32 : Value → Bool | .int .u32 _ => false | _ => true
theorem Lim.swap {A L : Heap} {cs cs' : List Value} {o : Bool} {v : Value} {l : List Nat} (h : Lim (A ++ (⟨cs, 1, o⟩ :: L)) v l) (hl : cs'.length = cs.length) (hno : cs.all noU32 = true) : Lim (A ++ (⟨cs', 1, o⟩ :: L)) v l := by
  rcases h with h | ⟨b, i, c, rfl, hcap, ⟨B, hB, he, hi, hc⟩, hlen⟩
  · exact .inl h
  refine .inr ⟨b, i, c, rfl, hcap, ?_, hlen⟩
  by_cases hb : b = A.length
  · subst hb
    simp at hB
    subst hB
    refine ⟨⟨cs', 1, o⟩, by simp, rfl, by simp only [hl]; exact hi, ?_⟩
    cases l with
    | nil => simp [u32s]
    | cons x l =>
      exfalso
      have h1 : (Value.int .u32 (x : Nat)) ∈ cs := by
        have : (Value.int .u32 (x : Nat)) ∈ (cs.drop i).take (x :: l).length := by rw [hc]; simp [u32s]
        exact List.mem_of_mem_drop (List.mem_of_mem_take this)
      have := List.all_eq_true.1 hno _ h1
      simp [noU32] at this
  · refine ⟨B, ?_, he, hi, hc⟩
    rw [List.getElem?_append] at hB ⊢
    by_cases hlt : b < A.length
    · rw [if_pos hlt] at hB ⊢; exact hB
    · rw [if_neg hlt] at hB ⊢
      obtain ⟨j, hj⟩ : ∃ j, b - A.length = j + 1 := ⟨b - A.length - 1, by omega⟩
      rw [hj] at hB ⊢
      simpa using hB
theorem u8s_set (l : List UInt8) (k : Nat) (b : UInt8) : (u8s l).set k (.int .u8 (b.toNat : Nat)) = u8s (l.set k b) := by simp [u8s, List.map_set]
theorem u8_wr {l : List UInt8} {L : Heap} {k : Nat} {b : UInt8} (h : k < l.length) : wr (⟨u8s l, 1, true⟩ :: L) 0 k [.int .u8 (b.toNat : Nat)] = some (⟨u8s (l.set k b), 1, true⟩ :: L) := by
  rw [wr_eq]
  simp only [List.getElem?_cons_zero, List.set_cons_zero]
  rw [if_pos (by simp [u8s_length, allC, isCell]; omega), splice_one _ _ _ (by rw [u8s_length]; exact h), u8s_set]
theorem u8_rd {l : List UInt8} {L : Heap} {k n : Nat} (h : k + n = l.length) : rd (⟨u8s l, 1, true⟩ :: L) 0 k n = some (u8s (l.drop k)) := by
  unfold rd
  simp only [List.getElem?_cons_zero]
  rw [if_pos (by simp [u8s_length]; omega), List.take_of_length_le (by simp [u8s_length]; omega)]
  simp [u8s, List.map_drop]
theorem digB_step {n : Nat} (h : n ≠ 0) : digB n = digB (n / 256) ++ [UInt8.ofNat n] := by
  conv => lhs; unfold digB
  rw [dif_neg h]
  congr 2
  apply UInt8.toNat_inj.1
  simp
end Go.Fw
namespace Go.Fw
open Go
structure KN (X V i k v1 v2 uh ul u0 : Nat) : Prop where
  v1h : 2147483648 ≤ v1
  v1l : v1 < 4294967296
  v2l : v2 < 4294967296
  uhl : uh < 4294967296
  ull : ul < 4294967296
  u0l : u0 < 4294967296
  k2 : 2 ≤ k
  xlt : X < V * 4294967296 ^ (i + 1)
  wle : (v1 * 4294967296 + v2) * 4294967296 ^ (i + k - 2) ≤ V * 4294967296 ^ i
  wlt : V * 4294967296 ^ i < (v1 * 4294967296 + v2 + 1) * 4294967296 ^ (i + k - 2)
  tle : ((uh * 4294967296 + ul) * 4294967296 + u0) * 4294967296 ^ (i + k - 2) ≤ X
  tlt : X < ((uh * 4294967296 + ul) * 4294967296 + u0 + 1) * 4294967296 ^ (i + k - 2)
theorem top_split {l : List Nat} (hs : small l) {k : Nat} (hk : 2 ≤ k) (hl : k ≤ l.length) :
    (l.getD (k - 1) 0 * 4294967296 + l.getD (k - 2) 0) * 4294967296 ^ (k - 2) ≤ valL (l.take k) ∧ valL (l.take k) < (l.getD (k - 1) 0 * 4294967296 + l.getD (k - 2) 0 + 1) * 4294967296 ^ (k - 2) := by
  have e1 := valL_take_succ (l := l) (k := k - 1) (by omega)
  have e2 := valL_take_succ (l := l) (k := k - 2) (by omega)
  have h3 := valL_lt (small_take hs (k - 2))
  rw [List.length_take, Nat.min_eq_left (by omega)] at h3
  rw [show k - 1 + 1 = k by omega] at e1
  rw [show k - 2 + 1 = k - 1 by omega] at e2
  have p : 4294967296 ^ (k - 1) = 4294967296 ^ (k - 2) * 4294967296 := by rw [← Nat.pow_succ]; congr 1; omega
  have g1 : l.getD (k - 1) 0 = l[k - 1]'(by omega) := by simp [show k - 1 < l.length by omega]
  have g2 : l.getD (k - 2) 0 = l[k - 2]'(by omega) := by simp [show k - 2 < l.length by omega]
  rw [g1, g2]
  generalize l[k - 1]'(by omega) = x at *
  generalize l[k - 2]'(by omega) = y at *
  rw [e1, e2, p]
  generalize 4294967296 ^ (k - 2) = P at *
  have : (x * 4294967296 + y) * P = P * y + P * 4294967296 * x := by grind
  have : (x * 4294967296 + y + 1) * P = P * y + P * 4294967296 * x + P := by grind
  omega
theorem top_split3 {l : List Nat} (hs : small l) {k : Nat} (hk : 3 ≤ k) (hl : k ≤ l.length) :
    ((l.getD (k - 1) 0 * 4294967296 + l.getD (k - 2) 0) * 4294967296 + l.getD (k - 3) 0) * 4294967296 ^ (k - 3) ≤ valL (l.take k) ∧ valL (l.take k) < ((l.getD (k - 1) 0 * 4294967296 + l.getD (k - 2) 0) * 4294967296 + l.getD (k - 3) 0 + 1) * 4294967296 ^ (k - 3) := by
  have e1 := valL_take_succ (l := l) (k := k - 1) (by omega)
  obtain ⟨h1, h2⟩ := top_split hs (k := k - 1) (by omega) (by omega)
  rw [show k - 1 - 1 = k - 2 by omega, show k - 1 - 2 = k - 3 by omega] at h1 h2
  rw [show k - 1 + 1 = k by omega] at e1
  have p : 4294967296 ^ (k - 1) = 4294967296 ^ (k - 3) * 4294967296 * 4294967296 := by rw [← Nat.pow_succ, ← Nat.pow_succ]; congr 1; omega
  have g1 : l.getD (k - 1) 0 = l[k - 1]'(by omega) := by simp [show k - 1 < l.length by omega]
  rw [g1]
  generalize l[k - 1]'(by omega) = x at *
  generalize l.getD (k - 2) 0 = y at *
  generalize l.getD (k - 3) 0 = z at *
  rw [e1, p]
  generalize 4294967296 ^ (k - 3) = P at *
  have : ((x * 4294967296 + y) * 4294967296 + z) * P = (y * 4294967296 + z) * P + P * 4294967296 * 4294967296 * x := by grind
  have : ((x * 4294967296 + y) * 4294967296 + z + 1) * P = (y * 4294967296 + z + 1) * P + P * 4294967296 * 4294967296 * x := by grind
  omega
theorem take_all_val {l : List Nat} (hs : small l) {k : Nat} (h : valL l < 4294967296 ^ k) : valL (l.take k) = valL l := by
  rw [valL_mod l hs k, Nat.mod_eq_of_lt h]
theorem KN.of {u m : List Nat} {X V i : Nat} (hu : small u) (hm : small m) (hX : valL u = X) (hV : valL m = V) (hk : 2 ≤ m.length) (hi : i + m.length < u.length) (h1 : 2147483648 ≤ m.getD (m.length - 1) 0) (hlt : X < V * 4294967296 ^ (i + 1)) :
    KN X V i m.length (m.getD (m.length - 1) 0) (m.getD (m.length - 2) 0) (u.getD (i + m.length) 0) (u.getD (i + m.length - 1) 0) (u.getD (i + m.length - 2) 0) := by
  obtain ⟨a1, a2⟩ := top_split hm hk (Nat.le_refl _)
  obtain ⟨b1, b2⟩ := top_split3 hu (k := i + m.length + 1) (by omega) (by omega)
  rw [List.take_length, hV] at a1 a2
  have hVl := valL_lt hm
  rw [hV] at hVl
  have hXl : X < 4294967296 ^ (i + m.length + 1) := by
    refine Nat.lt_of_lt_of_le hlt ?_
    rw [show i + m.length + 1 = m.length + (i + 1) by omega, Nat.pow_add 4294967296 m.length (i + 1)]
    exact Nat.mul_le_mul_right _ (by omega)
  rw [take_all_val hu (by rw [hX]; exact hXl), hX] at b1 b2
  rw [show i + m.length + 1 - 1 = i + m.length by omega, show i + m.length + 1 - 2 = i + m.length - 1 by omega, show i + m.length + 1 - 3 = i + m.length - 2 by omega] at b1 b2
  have p : 4294967296 ^ (i + m.length - 2) = 4294967296 ^ (m.length - 2) * 4294967296 ^ i := by rw [← Nat.pow_add]; congr 1; omega
  refine ⟨h1, small_getD hm _, small_getD hm _, small_getD hu _, small_getD hu _, small_getD hu _, hk, hlt, ?_, ?_, b1, b2⟩
  · rw [p, ← Nat.mul_assoc]; exact Nat.mul_le_mul_right _ a1
  · rw [p, ← Nat.mul_assoc]; exact Nat.mul_lt_mul_of_pos_right a2 (Nat.pow_pos (by decide))
section
variable {X V i k v1 v2 uh ul u0 : Nat} (h : KN X V i k v1 v2 uh ul u0)
include h
theorem KN.qlt : X / (V * 4294967296 ^ i) < 4294967296 := by
  have := h.xlt
  rw [Nat.pow_succ, ← Nat.mul_assoc, Nat.mul_comm _ 4294967296] at this
  exact guess_lt this
theorem KN.first : X / (V * 4294967296 ^ i) ≤ (uh * 4294967296 + ul) / v1 := by
  have hv := h.v1h
  have h1 : uh * 4294967296 + ul < ((uh * 4294967296 + ul) / v1 + 1) * v1 := by
    rw [Nat.add_mul, Nat.one_mul]; exact Nat.lt_div_mul_add (by omega)
  generalize (uh * 4294967296 + ul) / v1 = g at *
  have : X < (g + 1) * (V * 4294967296 ^ i) := by
    refine knuth_hi (Nat.pow_pos (by decide)) h.wle h.tlt ?_
    have := h.u0l
    have e : (g + 1) * (v1 * 4294967296 + v2) = (g + 1) * v1 * 4294967296 + (g + 1) * v2 := by grind
    omega
  have := guess_lt this
  omega
theorem KN.over {g r : Nat} (hg : g * v1 + r = uh * 4294967296 + ul) (hc : r * 4294967296 + u0 < g * v2) : X / (V * 4294967296 ^ i) < g := by
  refine guess_lt (knuth_hi (Nat.pow_pos (by decide)) h.wle h.tlt ?_)
  have e : g * (v1 * 4294967296 + v2) = g * v1 * 4294967296 + g * v2 := by grind
  rw [e]; omega
theorem KN.under {g r : Nat} (hg : g * v1 + r = uh * 4294967296 + ul) (hl : g < 4294967296) (hc : 4294967296 ≤ r ∨ g * v2 ≤ r * 4294967296 + u0) : (g - 1) * (V * 4294967296 ^ i) ≤ X := by
  have hv := h.v1h
  have hv2 := h.v2l
  refine knuth_lo (Nat.pow_pos (by decide)) h.wlt h.tle ?_ (by omega)
  have e : g * (v1 * 4294967296 + v2) = g * v1 * 4294967296 + g * v2 := by grind
  rw [e]
  rcases hc with hc | hc
  · have : g * v2 ≤ 4294967295 * 4294967295 := Nat.mul_le_mul (by omega) (by omega)
    omega
  · omega
theorem KN.vpos : 0 < V * 4294967296 ^ i := by
  have := h.xlt
  refine Nat.pos_of_ne_zero fun h0 => ?_
  rw [Nat.pow_succ, ← Nat.mul_assoc, h0] at this
  omega
end
theorem quot_of {X V g Y : Nat} (hV : 0 < V) (h : Y + V * g = X) (hq : X / V ≤ g) : g = X / V ∧ Y = X % V := by
  have h1 : g ≤ X / V := guess_ge hV (by rw [Nat.mul_comm]; omega)
  have h2 : g = X / V := by omega
  have h3 := Nat.div_add_mod X V
  rw [← h2] at h3
  exact ⟨h2, by omega⟩
theorem sub_step {A A' X P c b g x d d' b' W : Nat} (h : A + W = X + P * (c + b)) (hs : d' + (c + g * x) % 4294967296 + b = d + 4294967296 * b') (hA : A' + P * d = A + P * d') :
    A' + (W + P * (g * x)) = X + P * 4294967296 * ((c + g * x) / 4294967296 + b') := by
  have e := Nat.mod_add_div (c + g * x) 4294967296
  generalize (c + g * x) % 4294967296 = lo at *
  generalize (c + g * x) / 4294967296 = hi at *
  have e2 : P * (c + g * x) = P * lo + P * (4294967296 * hi) := by rw [← e, Nat.mul_add]
  have e3 := congrArg (P * ·) hs
  simp only [Nat.mul_add] at *
  have e4 : P * 4294967296 * hi = P * (4294967296 * hi) := by grind
  have e5 : P * 4294967296 * b' = P * (4294967296 * b') := by grind
  omega
theorem add_step {A A' X P s x d W : Nat} (h : A + P * s = X + W) (hA : A' + P * d = A + P * ((d + x + s) % 4294967296)) : A' + P * 4294967296 * ((d + x + s) / 4294967296) = X + (W + P * x) := by
  have e := Nat.mod_add_div (d + x + s) 4294967296
  generalize (d + x + s) % 4294967296 = lo at *
  generalize (d + x + s) / 4294967296 = hi at *
  have e2 : P * (d + x + s) = P * lo + P * (4294967296 * hi) := by rw [← e, Nat.mul_add]
  simp only [Nat.mul_add] at *
  have e4 : P * 4294967296 * hi = P * (4294967296 * hi) := by grind
  omega
theorem back_step {A A' X P s d V g N : Nat} (hN : N = P * 4294967296) (h0 : A + P * s + V * g = X + N + V) (hA : A' + P * d = A + P * ((d + s) % 4294967296)) (hlt : A' < N) (hg : (g - 1) * V ≤ X) (hg1 : 1 ≤ g) (hds : d + s ≤ 4294967296) : A' + V * (g - 1) = X := by
  have e := Nat.mod_add_div (d + s) 4294967296
  have hh : (d + s) / 4294967296 ≤ 1 := by omega
  generalize (d + s) % 4294967296 = lo at *
  generalize (d + s) / 4294967296 = hi at *
  have e2 : P * (d + s) = P * lo + P * (4294967296 * hi) := by rw [← e, Nat.mul_add]
  rw [Nat.mul_add] at e2
  have e4 : P * (4294967296 * hi) = N * hi := by rw [hN]; grind
  have e5 : V * g = V * (g - 1) + V := by
    conv => lhs; rw [show g = (g - 1) + 1 by omega, Nat.mul_add, Nat.mul_one]
  rw [Nat.mul_comm (g - 1)] at hg
  have e6 : A' + N * hi + V * (g - 1) = X + N := by omega
  rcases Nat.eq_zero_or_pos hi with h1 | h1
  · subst h1; omega
  · have : hi = 1 := by omega
    subst this; omega
end Go.Fw
namespace Go.Fw
open Go
section
variable {tt : TT} {S : ACall} {Q : APost} {s : Slots} {H H1 H2 : Heap} {id : Nat} {ops : Array Oper}
variable {d0 d1 a b c e : Nat} {ty y0 y1 y2 y3 : TypeId} {p0 p1 p2 p3 : String} {f0 f1 f2 f3 : Array Edge}
theorem aop_ld {s : Slots} {o : Oper} {d x : Nat} {v : Value} {H : Heap} (ho : o = ⟨some d, .load ty (.tmp x), y0, p0, f0, none⟩) (h : aLoad tt H ty (s x) = some v) : AOp tt S 0 ops o s H (s.put (some d) v) H := by
  subst ho
  unfold AOp wantedA Region.wanted
  simp only [if_true]
  refine ⟨v, ?_, rfl⟩
  simp only [aop, ev, h, Option.map_some]
theorem aop_st {s : Slots} {o : Oper} {x w : Nat} {v : Value} {H H1 : Heap} (ho : o = ⟨none, .store ty (.tmp x) (.tmp w), y0, p0, f0, none⟩) (hw : s w = v) (h : aStore tt H ty (s x) v = some H1) : AOp tt S 0 ops o s H s H1 := by
  subst ho
  unfold AOp wantedA Region.wanted
  simp only [if_true]
  refine ⟨undef, ?_, rfl⟩
  simp only [aop, ev, hw, h, Option.map_some]
theorem slot_other {s : Slots} {d x : Nat} {v : Value} (h : x ≠ d) : s.put (some d) v x = s x := by simp [Slots.put, h]
theorem slot_same {s : Slots} {d : Nat} {v : Value} : s.put (some d) v d = v := by simp [Slots.put]
theorem slot_comm {s : Slots} {d d' : Nat} {v v' : Value} (h : d ≠ d') : (s.put (some d) v).put (some d') v' = (s.put (some d') v').put (some d) v := by
  funext x
  simp only [Slots.put]
  by_cases h1 : x = d'
  · by_cases h2 : x = d
    · omega
    · simp [h1, show ¬ d' = d by omega]
  · simp [h1]
theorem ax_cross {n : Nat} (o0 o1 o2 o3 : Oper) (h0 : ops[0]? = some o0) (h1 : ops[1]? = some o1) (h2 : ops[2]? = some o2) (h3 : ops[3]? = some o3)
    (e0 : o0 = ⟨some d0, .load ty (.tmp a), y0, p0, f0, none⟩) (e1 : o1 = ⟨some d1, .load ty (.tmp b), y1, p1, f1, none⟩)
    (e2 : o2 = ⟨none, .store ty (.tmp c) (.tmp d0), y2, p2, f2, none⟩) (e3 : o3 = ⟨none, .store ty (.tmp e) (.tmp d1), y3, p3, f3, none⟩)
    (L : Nat → Nat → Nat → Nat → Array Bool)
    (hL : ops.size = n + 4 ∧ Array.replicate ops.size false = L 0 0 0 0 ∧ (L 0 0 0 0).setIfInBounds 0 true = L 1 0 0 0 ∧ (L 0 0 0 0).setIfInBounds 1 true = L 0 1 0 0 ∧ (L 1 0 0 0).setIfInBounds 1 true = L 1 1 0 0 ∧ (L 1 0 0 0).setIfInBounds 2 true = L 1 0 1 0 ∧
      (L 0 1 0 0).setIfInBounds 0 true = L 1 1 0 0 ∧ (L 1 1 0 0).setIfInBounds 2 true = L 1 1 1 0 ∧ (L 1 0 1 0).setIfInBounds 1 true = L 1 1 1 0 ∧ (L 1 1 1 0).setIfInBounds 3 true = L 1 1 1 1)
    (hr : Region.ready .any ops (L 0 0 0 0) = [0, 1] ∧ Region.ready .any ops (L 1 0 0 0) = [1, 2] ∧ Region.ready .any ops (L 0 1 0 0) = [0] ∧ Region.ready .any ops (L 1 1 0 0) = [2] ∧ Region.ready .any ops (L 1 0 1 0) = [1] ∧ Region.ready .any ops (L 1 1 1 0) = [3])
    {v0 v1 : Value} (hne : d0 ≠ d1 ∧ b ≠ d0 ∧ a ≠ d1 ∧ c ≠ d0 ∧ c ≠ d1 ∧ e ≠ d0 ∧ e ≠ d1)
    (ha : aLoad tt H ty (s a) = some v0) (hb : aLoad tt H ty (s b) = some v1) (hc : aStore tt H ty (s c) v0 = some H1) (hb1 : aLoad tt H1 ty (s b) = some v1) (he : aStore tt H1 ty (s e) v1 = some H2)
    (k : ∃ s' H', AxAny tt S ops (fun s1 H1 => s1 = s' ∧ H1 = H') n (L 1 1 1 1) ((s.put (some d0) v0).put (some d1) v1) H2 ∧ Q .normal s' H') : Ax tt S (.region id ops true) Q s H := by
  obtain ⟨s', H', k, hQ⟩ := k
  obtain ⟨n1, n2, n3, n4, n5, n6, n7⟩ := hne
  obtain ⟨m0, m1, m2, m3, m4, m5, m6, m7, m8, m9⟩ := hL
  obtain ⟨r1, r2, r3, r4, r5, r6⟩ := hr
  show AxReg tt S ops true (Q .normal) s H
  unfold AxReg
  simp only [if_true]
  refine .inr ⟨s', H', ?_, hQ⟩
  rw [m1, m0]
  have last : AxAny tt S ops (fun s1 H1 => s1 = s' ∧ H1 = H') (n + 1) (L 1 1 1 0) ((s.put (some d0) v0).put (some d1) v1) H1 := by
    unfold AxAny
    rw [r6]
    refine ⟨fun h => (by cases h), ?_⟩
    intro i hi
    obtain rfl : i = 3 := by simpa using hi
    simp only [h3]
    refine ⟨_, _, aop_st e3 slot_same (by rw [slot_other n7, slot_other n6]; exact he), ?_⟩
    rw [m9]; exact k
  have s3 : AxAny tt S ops (fun s1 H1 => s1 = s' ∧ H1 = H') (n + 2) (L 1 1 0 0) ((s.put (some d0) v0).put (some d1) v1) H := by
    unfold AxAny
    rw [r4]
    refine ⟨fun h => (by cases h), ?_⟩
    intro i hi
    obtain rfl : i = 2 := by simpa using hi
    simp only [h2]
    refine ⟨_, _, aop_st e2 (by rw [slot_other n1, slot_same]) (by rw [slot_other n5, slot_other n4]; exact hc), ?_⟩
    rw [m7]; exact last
  have s4 : AxAny tt S ops (fun s1 H1 => s1 = s' ∧ H1 = H') (n + 2) (L 1 0 1 0) (s.put (some d0) v0) H1 := by
    unfold AxAny
    rw [r5]
    refine ⟨fun h => (by cases h), ?_⟩
    intro i hi
    obtain rfl : i = 1 := by simpa using hi
    simp only [h1]
    refine ⟨_, _, aop_ld e1 (by rw [slot_other n2]; exact hb1), ?_⟩
    rw [m8]; exact last
  have s1' : AxAny tt S ops (fun s1 H1 => s1 = s' ∧ H1 = H') (n + 3) (L 1 0 0 0) (s.put (some d0) v0) H := by
    unfold AxAny
    rw [r2]
    refine ⟨fun h => (by cases h), ?_⟩
    intro i hi
    have : i = 1 ∨ i = 2 := by simpa using hi
    rcases this with rfl | rfl
    · simp only [h1]
      refine ⟨_, _, aop_ld e1 (by rw [slot_other n2]; exact hb), ?_⟩
      rw [m4]; exact s3
    · simp only [h2]
      refine ⟨_, _, aop_st e2 slot_same (by rw [slot_other n4]; exact hc), ?_⟩
      rw [m5]; exact s4
  have s2' : AxAny tt S ops (fun s1 H1 => s1 = s' ∧ H1 = H') (n + 3) (L 0 1 0 0) (s.put (some d1) v1) H := by
    unfold AxAny
    rw [r3]
    refine ⟨fun h => (by cases h), ?_⟩
    intro i hi
    obtain rfl : i = 0 := by simpa using hi
    simp only [h0]
    refine ⟨_, _, aop_ld e0 (by rw [slot_other n3]; exact ha), ?_⟩
    rw [m6, slot_comm (Ne.symm n1)]; exact s3
  unfold AxAny
  rw [r1]
  refine ⟨fun h => (by cases h), ?_⟩
  intro i hi
  have : i = 0 ∨ i = 1 := by simpa using hi
  rcases this with rfl | rfl
  · simp only [h0]
    refine ⟨_, _, aop_ld e0 ha, ?_⟩
    rw [m2]; exact s1'
  · simp only [h1]
    refine ⟨_, _, aop_ld e1 hb, ?_⟩
    rw [m3]; exact s2'
def bits5 (i j k l : Nat) : Array Bool := #[i == 1, j == 1, k == 1, l == 1, false]
theorem ax_cross5 {d4 : Nat} {y4 : TypeId} {p4 : String} {f4 : Array Edge} {w : Value}
    (hr : Region.ready .any #[⟨some d0, .load ty (.tmp a), y0, p0, f0, none⟩, ⟨some d1, .load ty (.tmp b), y1, p1, f1, none⟩, ⟨none, .store ty (.tmp c) (.tmp d0), y2, p2, f2, none⟩, ⟨none, .store ty (.tmp e) (.tmp d1), y3, p3, f3, none⟩, ⟨some d4, .assign (.const w), y4, p4, f4, none⟩] (bits5 0 0 0 0) = [0, 1] ∧
      Region.ready .any #[⟨some d0, .load ty (.tmp a), y0, p0, f0, none⟩, ⟨some d1, .load ty (.tmp b), y1, p1, f1, none⟩, ⟨none, .store ty (.tmp c) (.tmp d0), y2, p2, f2, none⟩, ⟨none, .store ty (.tmp e) (.tmp d1), y3, p3, f3, none⟩, ⟨some d4, .assign (.const w), y4, p4, f4, none⟩] (bits5 1 0 0 0) = [1, 2] ∧
      Region.ready .any #[⟨some d0, .load ty (.tmp a), y0, p0, f0, none⟩, ⟨some d1, .load ty (.tmp b), y1, p1, f1, none⟩, ⟨none, .store ty (.tmp c) (.tmp d0), y2, p2, f2, none⟩, ⟨none, .store ty (.tmp e) (.tmp d1), y3, p3, f3, none⟩, ⟨some d4, .assign (.const w), y4, p4, f4, none⟩] (bits5 0 1 0 0) = [0] ∧
      Region.ready .any #[⟨some d0, .load ty (.tmp a), y0, p0, f0, none⟩, ⟨some d1, .load ty (.tmp b), y1, p1, f1, none⟩, ⟨none, .store ty (.tmp c) (.tmp d0), y2, p2, f2, none⟩, ⟨none, .store ty (.tmp e) (.tmp d1), y3, p3, f3, none⟩, ⟨some d4, .assign (.const w), y4, p4, f4, none⟩] (bits5 1 1 0 0) = [2] ∧
      Region.ready .any #[⟨some d0, .load ty (.tmp a), y0, p0, f0, none⟩, ⟨some d1, .load ty (.tmp b), y1, p1, f1, none⟩, ⟨none, .store ty (.tmp c) (.tmp d0), y2, p2, f2, none⟩, ⟨none, .store ty (.tmp e) (.tmp d1), y3, p3, f3, none⟩, ⟨some d4, .assign (.const w), y4, p4, f4, none⟩] (bits5 1 0 1 0) = [1] ∧
      Region.ready .any #[⟨some d0, .load ty (.tmp a), y0, p0, f0, none⟩, ⟨some d1, .load ty (.tmp b), y1, p1, f1, none⟩, ⟨none, .store ty (.tmp c) (.tmp d0), y2, p2, f2, none⟩, ⟨none, .store ty (.tmp e) (.tmp d1), y3, p3, f3, none⟩, ⟨some d4, .assign (.const w), y4, p4, f4, none⟩] (bits5 1 1 1 0) = [3])
    (hr5 : Region.ready .any #[⟨some d0, .load ty (.tmp a), y0, p0, f0, none⟩, ⟨some d1, .load ty (.tmp b), y1, p1, f1, none⟩, ⟨none, .store ty (.tmp c) (.tmp d0), y2, p2, f2, none⟩, ⟨none, .store ty (.tmp e) (.tmp d1), y3, p3, f3, none⟩, ⟨some d4, .assign (.const w), y4, p4, f4, none⟩] (bits5 1 1 1 1) = [4])
    (hr6 : Region.ready .any #[⟨some d0, .load ty (.tmp a), y0, p0, f0, none⟩, ⟨some d1, .load ty (.tmp b), y1, p1, f1, none⟩, ⟨none, .store ty (.tmp c) (.tmp d0), y2, p2, f2, none⟩, ⟨none, .store ty (.tmp e) (.tmp d1), y3, p3, f3, none⟩, ⟨some d4, .assign (.const w), y4, p4, f4, none⟩] #[true, true, true, true, true] = [])
    {v0 v1 : Value} (hne : d0 ≠ d1 ∧ b ≠ d0 ∧ a ≠ d1 ∧ c ≠ d0 ∧ c ≠ d1 ∧ e ≠ d0 ∧ e ≠ d1)
    (ha : aLoad tt H ty (s a) = some v0) (hb : aLoad tt H ty (s b) = some v1) (hc : aStore tt H ty (s c) v0 = some H1) (hb1 : aLoad tt H1 ty (s b) = some v1) (he : aStore tt H1 ty (s e) v1 = some H2)
    (k : Q .normal (((s.put (some d0) v0).put (some d1) v1).put (some d4) w) H2) :
    Ax tt S (.region id #[⟨some d0, .load ty (.tmp a), y0, p0, f0, none⟩, ⟨some d1, .load ty (.tmp b), y1, p1, f1, none⟩, ⟨none, .store ty (.tmp c) (.tmp d0), y2, p2, f2, none⟩, ⟨none, .store ty (.tmp e) (.tmp d1), y3, p3, f3, none⟩, ⟨some d4, .assign (.const w), y4, p4, f4, none⟩] true) Q s H := by
  refine ax_cross (n := 1) _ _ _ _ rfl rfl rfl rfl rfl rfl rfl rfl bits5 ⟨rfl, rfl, rfl, rfl, rfl, rfl, rfl, rfl, rfl, rfl⟩ hr hne ha hb hc hb1 he ⟨_, _, ?_, k⟩
  unfold AxAny
  rw [hr5]
  refine ⟨fun h => (by cases h), ?_⟩
  intro i hi
  obtain rfl : i = 4 := by simpa using hi
  refine ⟨((s.put (some d0) v0).put (some d1) v1).put (some d4) w, H2, ?_, ?_⟩
  · show AOp tt S 0 _ ⟨some d4, .assign (.const w), y4, p4, f4, none⟩ _ _ _ _
    unfold AOp wantedA Region.wanted
    simp only [if_true]
    exact ⟨w, rfl, rfl⟩
  · unfold AxAny
    exact ⟨hr6, rfl, rfl⟩
end
end Go.Fw
