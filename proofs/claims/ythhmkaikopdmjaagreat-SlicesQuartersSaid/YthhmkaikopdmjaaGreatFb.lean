/- Abstract code and the machine's: code, functions; What a function leaves behind that nobody can see is dropped; Walking abstract code: equations; Comparisons of structs whose cells are scalars; the table of types; Walking by equations: one for each operation; Walking by equations: values, the heap, calls; Walking by equations: control, arithmetic; Slices over rows of scalars; Numbers in base 2^32 and in base 256; Rows of limbs in the heap; Rows of bytes; The plain law of long division; Integers and fractions as the program's values. Conditions: none. -/
import Derived.Test.YthhmkaikopdmjaaGreatFa
import Derived.IntWalk
import Derived.Laws.Strings
set_option linter.unusedSimpArgs false
set_option linter.unusedVariables false
namespace Go.Fw
open Go

def AEx.ex : AEx → Exit | .normal => .normal | .exit id => .exit id | .ret => .ret

section
variable {P : Program} {tt : TT} {r : Option Nat} {m n : Nat} {ds : List Deferred} {S : ACall} {X : Inj → Heap → World → Prop}

theorem reg_sound (hS : Snd P r S X) (hT : TOK P tt) (hmix : P.follows .mixedOrders = true) {ops : Array Oper} {draw : Bool} (hk : ops.toList.all (operOk n) = true) {id : Nat} {K : Slots → Heap → Prop} {Q : Exit → Act → World → Prop} {s : Slots} {H : Heap} {ρ : Inj} {a : Act} {W : World}
    (h : AxReg tt S ops draw K s H) (hX : X ρ H W) (hR : Rel n ds ρ s H a W) (hn : ∀ s' H' a' ρ' W', K s' H' → Rel n ds ρ' s' H' a' W' → Step ρ H W ρ' H' W' → Q .normal a' W') :
    (Code.region id ops draw).wpIn (FW r) m P Q a W := by
  unfold AxReg at h
  split at h
  · rename_i hd
    subst hd
    rcases h with ⟨hO, h⟩ | ⟨hO, h⟩ | ⟨s1, H1, h, hK1⟩
    · exact quiet_region hS hT hmix hk hO h hX hR hn
    · exact quiet_region hS hT hmix hk hO h hX hR hn
    · refine wpIn_region_any hmix ?_
      have hd : Step ρ H W ρ H { W with drawn := W.drawn + 1 } := Step.same hR.mem rfl rfl rfl rfl
      exact axAny_sound (ds := ds) hS hT hk ops.size _ h (hS.st hX hd) ⟨hd.mem, hR.size, hR.defers, hR.slots⟩ (fun s' H' a' ρ' W' hK hR' hs => hn s' H' a' ρ' W' (by obtain ⟨rfl, rfl⟩ := hK; exact hK1) hR' (hd.trans hs))
  · rename_i hd
    have : draw = false := by simpa using hd
    subst this
    exact wpIn_region (axI_sound (ds := ds) hS hT hk _ h hX hR hn)

theorem ax_sound (hS : Snd P r S X) (hT : TOK P tt) (hmix : P.follows .mixedOrders = true) : ∀ (c : Code) {Q : APost} {QC : Exit → Act → World → Prop} {s : Slots} {H : Heap} {ρ : Inj} {a : Act} {W : World}, codeOk n c = true →
    Ax tt S c Q s H → X ρ H W → Rel n ds ρ s H a W → (∀ e s' H' a' ρ' W', Q e s' H' → Rel n ds ρ' s' H' a' W' → Step ρ H W ρ' H' W' → QC e.ex a' W') →
    c.wpIn (FW r) m P QC a W := by
  intro c
  induction c with
  | skip => intro Q QC s H ρ a W hk h hX hR hn; exact wpIn_skip (hn .normal s H a ρ W h hR (.refl hR.mem))
  | region id ops draw =>
    intro Q QC s H ρ a W hk h hX hR hn
    exact reg_sound (ds := ds) hS hT hmix hk h hX hR (fun s' H' a' ρ' W' hK hR' hs => hn .normal s' H' a' ρ' W' hK hR' hs)
  | seq x y ihx ihy =>
    intro Q QC s H ρ a W hk h hX hR hn
    simp only [codeOk, Bool.and_eq_true] at hk
    refine wpIn_seq (ihx hk.1 h hX hR ?_)
    intro e s' H' a' ρ' W' hQ hR' hs
    cases e with
    | normal => exact ihy hk.2 hQ (hS.st hX hs) hR' (fun e s2 H2 a2 ρ2 W2 hQ2 hR2 hs2 => hn e s2 H2 a2 ρ2 W2 hQ2 hR2 (hs.trans hs2))
    | exit id => exact hn (.exit id) s' H' a' ρ' W' hQ hR' hs
    | ret => exact hn .ret s' H' a' ρ' W' hQ hR' hs
  | cond c t e iht ihe =>
    intro Q QC s H ρ a W hk h hX hR hn
    simp only [codeOk, Bool.and_eq_true] at hk
    obtain ⟨b, hb, h⟩ := h
    have hc := ev_rel hR.slots hk.1.1
    rw [hb] at hc
    have hc' := hc.bool_inv
    refine wpIn_cond hc' ?_
    cases b with
    | true => exact iht hk.1.2 (by simpa using h) hX hR hn
    | false => exact ihe hk.2 (by simpa using h) hX hR hn
  | block id b ih =>
    intro Q QC s H ρ a W hk h hX hR hn
    refine wpIn_block (ih hk h hX hR ?_)
    intro e s' H' a' ρ' W' hQ hR' hs
    cases e with
    | normal => exact hn .normal s' H' a' ρ' W' hQ hR' hs
    | ret => exact hn .ret s' H' a' ρ' W' hQ hR' hs
    | exit id' =>
      simp only [AEx.ex, Exit.inBlock]
      simp only [AEx.inBlock] at hQ
      split at hQ
      · rename_i he; rw [if_pos he]; exact hn .normal s' H' a' ρ' W' hQ hR' hs
      · rename_i he; rw [if_neg he]; exact hn (.exit id') s' H' a' ρ' W' hQ hR' hs
  | loop b ih =>
    intro Q QC s H ρ a W hk h hX hR hn
    obtain ⟨k, h⟩ := h
    refine wpIn_loop_rounds k ?_
    have key : ∀ (k : Nat) {s : Slots} {H : Heap} {ρ1 : Inj} {a : Act} {W1 : World}, AxLoop (Ax tt S b) Q k s H → X ρ1 H W1 → Rel n ds ρ1 s H a W1 →
        (∀ e s' H' a' ρ' W', Q e s' H' → Rel n ds ρ' s' H' a' W' → Step ρ1 H W1 ρ' H' W' → QC e.ex a' W') → Code.roundsIn (FW r) m P b QC k a W1 := by
      intro k
      induction k with
      | zero => intro s H ρ1 a W1 h; exact h.elim
      | succ k ihk =>
        intro s H ρ1 a W1 h hX hR hn
        rw [roundsIn_succ]
        refine ih hk h hX hR ?_
        intro e s' H' a' ρ' W' hQ hR' hs
        cases e with
        | normal => exact ihk hQ (hS.st hX hs) hR' (fun e s2 H2 a2 ρ2 W2 hQ2 hR2 hs2 => hn e s2 H2 a2 ρ2 W2 hQ2 hR2 (hs.trans hs2))
        | exit id => exact hn (.exit id) s' H' a' ρ' W' hQ hR' hs
        | ret => exact hn .ret s' H' a' ρ' W' hQ hR' hs
    exact key k h hX hR hn
  | exit id => intro Q QC s H ρ a W hk h hX hR hn; exact wpIn_exit (hn (.exit id) s H a ρ W h hR (.refl hR.mem))
  | ret => intro Q QC s H ρ a W hk h hX hR hn; exact wpIn_ret (hn .ret s H a ρ W h hR (.refl hR.mem))
  | rangeFunc f ps x y _ _ => intro Q QC s H ρ a W hk; cases hk
  | scope b _ => intro Q QC s H ρ a W hk; cases hk
  | label l => intro Q QC s H ρ a W hk; cases hk
  | goto l => intro Q QC s H ρ a W hk; cases hk
  | refuse w => intro Q QC s H ρ a W hk; cases hk

/-! ### functions -/
def ini (args : Array Value) : Slots := fun t => args.getD t undef

/-- the results, read at the end -/
def resL (tt : TT) (s : Slots) (H : Heap) : List ResultVar → Option (List Value)
  | [] => some []
  | .tmp t :: l => (resL tt s H l).map (s t :: ·)
  | .cell a t :: l => match aLoad tt H t (s a) with
    | some v => (resL tt s H l).map (v :: ·)
    | none => none
def resV : List Value → Value
  | [v] => v
  | l => .tuple l.toArray

theorem loadVar_sim {ρ : Inj} {H : Heap} {W : World} {t : TypeId} {a v A : Value} (hT : TOK P tt) (hM : Mem ρ H W) (h : aLoad tt H t a = some v) (ha : VR ρ a A) :
    ∃ A' V, A = .pointer (some A') ∧ (loadVar t A').run P W = .ok V W ∧ VR ρ v V := by
  obtain ⟨V, h1, h2⟩ := load_sim (P := P) hT hM h ha
  unfold aLoad at h
  split at h
  · obtain ⟨A', rfl, hn⟩ := ha.ptr_inv
    cases A' with
    | none => simp at hn
    | some A' => exact ⟨A', V, rfl, by simpa [Instr.loadAt, Instr.sureAddr] using h1, h2⟩
  · cases h

theorem resL_sim {ρ : Inj} {s : Slots} {H : Heap} {a : Act} {W : World} (hT : TOK P tt) (hR : Rel n ds ρ s H a W) : ∀ (l : List ResultVar) (vs : List Value), resL tt s H l = some vs →
    ∃ Vs : List Value, (l.mapM (fun (x : ResultVar) => match x with
      | .tmp t => pure (a.tmps.getD t undef)
      | .cell p t => do loadVar t (← asAddr (a.tmps.getD p undef)) : ResultVar → Sem Value)).run P W = .ok Vs W ∧ VRl ρ vs Vs := by
  intro l
  induction l with
  | nil => intro vs h; simp [resL] at h; subst h; exact ⟨[], by simp, rfl, fun i h _ => by simp at h⟩
  | cons x l ih =>
    intro vs h
    have fin : ∀ {v V : Value} {vs' Vs' : List Value}, VR ρ v V → VRl ρ vs' Vs' → VRl ρ (v :: vs') (V :: Vs') := by
      intro v V vs' Vs' h1 h2
      refine ⟨by simp [h2.1], fun i g1 g2 => ?_⟩
      cases i with
      | zero => exact h1
      | succ i => simp; exact h2.2 i (by simpa using g1) (by simpa using g2)
    cases x with
    | tmp t =>
      simp only [resL] at h
      obtain ⟨vs', h', rfl⟩ := map_some h
      obtain ⟨Vs, h1, h2⟩ := ih vs' h'
      exact ⟨_, by simp only [List.mapM_cons, Sem.run_bind, Sem.run_pure, Result.andThen_ok, h1], fin (hR.slots t) h2⟩
    | cell p t =>
      simp only [resL] at h
      split at h
      · rename_i v hv
        obtain ⟨vs', h', rfl⟩ := map_some h
        obtain ⟨Vs, h1, h2⟩ := ih vs' h'
        obtain ⟨A', V, e, h3, h4⟩ := loadVar_sim (P := P) hT hR.mem hv (hR.slots p)
        have hA : (asAddr (a.tmps.getD p undef)).run P W = .ok A' W := by rw [e]; rfl
        exact ⟨_, by simp only [List.mapM_cons, Sem.run_bind, hA, Sem.run_pure, Result.andThen_ok, h3, h1], fin h4 h2⟩
      · cases h

theorem results_sim {ρ : Inj} {s : Slots} {H : Heap} {a : Act} {W : World} {fn : Func} {vs : List Value} (hT : TOK P tt) (hR : Rel n ds ρ s H a W) (h : resL tt s H fn.results.toList = some vs) :
    ∃ V, (results fn a.tmps).run P W = .ok V W ∧ VR ρ (resV vs) V := by
  obtain ⟨Vs, h1, h2⟩ := resL_sim hT hR _ vs h
  have hm : (fn.results.mapM (fun (x : ResultVar) => match x with
      | .tmp t => pure (a.tmps.getD t undef)
      | .cell p t => do loadVar t (← asAddr (a.tmps.getD p undef)) : ResultVar → Sem Value)).run P W = .ok Vs.toArray W := by
    rw [← Array.toArray_toList (xs := fn.results), List.mapM_toArray]
    simp only [Sem.run_map, h1, Result.andThen_ok]
  unfold results
  simp only [Sem.run_bind]
  have hm' := hm
  refine ⟨if h : Vs.toArray.size = 1 then Vs.toArray[0] else .tuple Vs.toArray, ?_, ?_⟩
  · exact (congrArg (fun x => Result.andThen x _) hm').trans rfl
  · have hl := h2.1
    split
    · rename_i h0
      simp at h0
      obtain ⟨V, rfl⟩ := List.length_eq_one_iff.1 h0
      obtain ⟨v, rfl⟩ := List.length_eq_one_iff.1 (hl.trans h0)
      simpa [resV] using h2.2 0 (by simp) (by simp)
    · rename_i h0
      simp at h0
      have : resV vs = .tuple vs.toArray := by
        match vs with
        | [] => rfl
        | [v] => simp at hl; omega
        | _ :: _ :: _ => rfl
      rw [this]
      exact .tuple _ _ (by simpa using hl) (fun i g1 g2 => by simpa using h2.2 i (by simpa using g1) (by simpa using g2))

/-- what a body must come to -/
def retP (tt : TT) (fn : Func) (R : List Value → Heap → Prop) : APost := fun e s H =>
  match e with
  | .normal | .ret => ∃ vs, resL tt s H fn.results.toList = some vs ∧ R vs H
  | .exit _ => False

theorem sim_of_ax {f : FuncId} {fn : Func} {c : Code} {args : Array Value} {H H1 : Heap} {v : Value} (hT : TOK P tt) (hmix : P.follows .mixedOrders = true) (hf : P.funcs[f]? = some fn) (hb : fn.body = some c)
    (hname : (fn.name == "runtime.NumGoroutine") = false) (hok : codeOk fn.ntmps c = true) (ha : args.size ≤ fn.ntmps)
    (h : Ax tt (SimF P) c (retP tt fn (fun vs H' => resV vs = v ∧ H' = H1)) (ini args) H) : Sim P f args H v H1 := by
  refine ⟨⟨fn, hf, hname, by rw [hb]; rfl⟩, fun ρ W ARGS hM hA => ?_⟩
  refine (callsIn_wide (n := 0)).1 ?_
  have hsz := hA.1
  have hR : Rel fn.ntmps [] ρ (ini args) H { tmps := ARGS ++ Array.replicate (fn.ntmps - ARGS.size) undef, defers := [] } W := by
    refine ⟨hM, by simp; omega, rfl, fun t => ?_⟩
    unfold ini
    by_cases hlt : t < args.size
    · have e1 : args.getD t undef = args[t] := by simp [Array.getD_eq_getD_getElem?, hlt]
      have e2 : (ARGS ++ Array.replicate (fn.ntmps - ARGS.size) undef).getD t undef = ARGS[t] := by
        rw [Array.getD_eq_getD_getElem?, Array.getElem?_append_left (by omega), Array.getElem?_eq_getElem (by omega)]; rfl
      rw [e1]
      simp only
      rw [e2]; exact hA.2 t hlt (by omega)
    · have e1 : args.getD t undef = undef := by simp [Array.getD_eq_getD_getElem?, Array.getElem?_eq_none (by omega : args.size ≤ t)]
      have e2 : (ARGS ++ Array.replicate (fn.ntmps - ARGS.size) undef).getD t undef = undef := by
        rw [Array.getD_eq_getD_getElem?, Array.getElem?_append_right (by omega)]
        by_cases h2 : t - ARGS.size < fn.ntmps - ARGS.size
        · simp [Array.getElem?_replicate, h2]
        · simp [Array.getElem?_replicate, h2]
      rw [e1]
      simp only
      rw [e2]; exact VR.undef ρ
  refine callsIn_of_wp hf hb trivial ?_ rfl
  have := ax_sound (r := none) (m := 0) (ds := []) (QC := bodyPost P fn fun e W' => ∃ V ρ', e = .returned V ∧ VR ρ' v V ∧ Step ρ H W ρ' H1 W') (snd_sim P none) hT hmix c hok h trivial hR ?_
  · exact this
  · intro e s' H' a' ρ' W' hQ hR' hs
    have fin : (∃ vs, resL tt s' H' fn.results.toList = some vs ∧ resV vs = v ∧ H' = H1) → a'.defers = [] ∧ ∃ V, (results fn a'.tmps).run P W' = .ok V W' ∧ ∃ V' ρ'', Ending.returned V = .returned V' ∧ VR ρ'' v V' ∧ Step ρ H W ρ'' H1 W' := by
      rintro ⟨vs, h1, rfl, rfl⟩
      obtain ⟨V, h2, h3⟩ := results_sim (fn := fn) hT hR' h1
      exact ⟨hR'.defers, V, h2, V, ρ', rfl, h3, hs⟩
    cases e with
    | normal => exact fin hQ
    | ret => exact fin hQ
    | exit id => exact hQ.elim
end
end Go.Fw
set_option linter.unusedSimpArgs false
set_option linter.unusedVariables false
namespace Go.Fw
open Go

/-- no addresses inside -/
def flat1 : Value → Bool
  | .agg cs => cs.toList.all plain
  | v => plain v
def flat : Value → Bool
  | .tuple vs => vs.toList.all flat1
  | v => flat1 v

theorem flat1_vr {v : Value} (h : flat1 v = true) {ρ ρ' : Inj} {V : Value} (hv : VR ρ v V) : VR ρ' v V := by
  have hp : ∀ {v V}, plain v = true → VR ρ v V → VR ρ' v V := by
    intro v V h hv
    unfold plain at h
    split at h <;> first | (exact Bool.noConfusion h) | (cases hv; constructor)
  unfold flat1 at h
  split at h
  · cases hv with
    | agg x x' hx k => exact .agg _ _ hx (fun i h1 h2 => hp (List.all_eq_true.1 h _ (by simp)) (k i h1 h2))
  · exact hp h hv
theorem flat_vr {v : Value} (h : flat v = true) {ρ ρ' : Inj} {V : Value} (hv : VR ρ v V) : VR ρ' v V := by
  unfold flat at h
  split at h
  · cases hv with
    | tuple x x' hx k => exact .tuple _ _ hx (fun i h1 h2 => flat1_vr (List.all_eq_true.1 h _ (by simp)) (k i h1 h2))
  · exact flat1_vr h hv

/-- what stays: only cells without addresses may have turned -/
def Calm (H H1 : Heap) : Prop := H1.length = H.length ∧ ∀ (b : Nat) (B : Blk), H1[b]? = some B → H[b]? = some B ∨ B.cells.all plain = true
theorem Calm.refl (H : Heap) : Calm H H := ⟨rfl, fun _ _ h => .inl h⟩

theorem Mem.cutCalm {ρ ρr : Inj} {H H1 G : Heap} {W Wr : World} (hc : Calm H H1) (h : Mem ρ (H1 ++ G) W) (hr : Mem ρr H Wr) : Mem (ρ.cutTo ρr) H1 W := by
  have hlt : ∀ {b s}, ρ.cutTo ρr b = some s → b < H1.length := fun hb => by rw [hc.1]; exact hr.dom _ (cutTo_some hb).2
  refine ⟨fun b hb => ?_, fun b hb => ?_, fun b p hb => ?_, fun b b' p p' B hne hb hb' hB ho => ?_⟩
  · cases e : ρ.cutTo ρr b with
    | none => exact absurd e hb
    | some s => exact hlt e
  · have := h.gone b (cutTo_some hb).1
    rwa [List.getElem?_append_left (hlt hb)] at this
  · obtain ⟨B, hB, l⟩ := h.lies b p (cutTo_some hb).1
    rw [List.getElem?_append_left (hlt hb)] at hB
    refine ⟨B, hB, ⟨l.old, l.esz, l.pos, l.len, fun i v hv => ?_, l.mine⟩⟩
    obtain ⟨V, h1, h2⟩ := l.cell i v hv
    refine ⟨V, h1, ?_⟩
    rcases hc.2 b B hB with hold | hpl
    · cases hs : ρr b with
      | none => exact absurd hs (cutTo_some hb).2
      | some s =>
        cases s with
        | dead =>
          have := hr.gone b hs
          rw [hold] at this; cases this
          exact absurd l.pos (by simp [deadBlk])
        | lies pr =>
          obtain ⟨B', hB', l'⟩ := hr.lies b pr hs
          rw [hold] at hB'; cases hB'
          obtain ⟨V0, _, h3⟩ := l'.cell i v hv
          exact VR.cutTo h3 h2
    · have hpv : plain v = true := List.all_eq_true.1 hpl v (List.mem_of_getElem? hv)
      exact flat1_vr (by unfold flat1; split <;> first | (simp [plain] at hpv; done) | exact hpv) h2
  · exact h.apart b b' p p' B hne (cutTo_some hb).1 (cutTo_some hb').1 (by rw [List.getElem?_append_left (hlt hb)]; exact hB) ho

theorem Step.drop {ρ ρ' : Inj} {H H1 G : Heap} {W W' : World} (hM : Mem ρ H W) (hc : Calm H H1) (s : Step ρ H W ρ' (H1 ++ G) W') : Step ρ H W (ρ'.cutTo ρ) H1 W' := by
  refine ⟨s.mem.cutCalm hc hM, by rw [hc.1]; exact Nat.le_refl _, fun b x hb => ?_, fun b hb hn => ?_, fun b p B hb hB hk => ?_, s.frame⟩
  · have e : ρ'.cutTo ρ b = ρ' b := cutTo_eq (by simp [hb])
    rw [e]; exact s.le b x hb
  · simp [Inj.cutTo, hn]
  · refine s.placed b p B (cutTo_some hb).1 ?_ hk
    rw [List.getElem?_append_left (by rw [hc.1]; exact hM.dom _ (cutTo_some hb).2)]; exact hB

/-- blocks that are kept, one by one, under new names -/
structure Kept (ρ : Inj) (H : Heap) (W : World) (ρ' : Inj) (T : Heap) (W' : World) (used : List Nat) (ρ1 : Inj) (H1 : Heap) : Prop where
  step : Step ρ H W ρ1 H1 W'
  from_ : ∀ b p, ρ1 b = some (.lies p) → ∃ b' p', ρ' b' = some (.lies p') ∧ p'.blk = p.blk ∧ (b' < H.length ∨ b' ∈ used)

theorem Kept.nil0 {ρ ρ' : Inj} {H H1 G : Heap} {W W' : World} (hM : Mem ρ H W) (hc : Calm H H1) (s : Step ρ H W ρ' (H1 ++ G) W') : Kept ρ H W ρ' (H1 ++ G) W' [] (ρ'.cutTo ρ) H1 :=
  ⟨s.drop hM hc, fun b p hb => ⟨b, p, (cutTo_some hb).1, rfl, .inl (hM.dom _ (cutTo_some hb).2)⟩⟩

theorem Kept.one {ρ ρ' ρ1 : Inj} {H T H1 : Heap} {W W' : World} {used : List Nat} (s : Step ρ H W ρ' T W') (k : Kept ρ H W ρ' T W' used ρ1 H1) {b i m : Nat} {p : Place} {B : Blk}
    (hb : ρ' b = some (.lies p)) (hB : T[b]? = some B) (ho : B.own = true) (hp : B.cells.all plain = true) (hl : H.length ≤ b) (hu : b ∉ used) (hm : i + m ≤ B.cells.length) :
    Kept ρ H W ρ' T W' (b :: used) (ρ1.put H1.length (.lies ⟨p.blk, p.off + i, p.ext - i, p.esz⟩)) (H1 ++ [⟨(B.cells.drop i).take m, B.esz, true⟩]) := by
  have hM1 := k.step.mem
  have h0 : ρ1 H1.length = none := hM1.none_at (Nat.le_refl _)
  have hle := Inj.le_put (s := .lies ⟨p.blk, p.off + i, p.ext - i, p.esz⟩) h0
  obtain ⟨B0, hB0, l⟩ := s.mem.lies b p hb
  obtain rfl : B0 = B := by rw [hB] at hB0; exact (Option.some.inj hB0).symm
  have hlen := l.len
  have hget : ∀ x, x < H1.length → (H1 ++ [(⟨(B0.cells.drop i).take m, B0.esz, true⟩ : Blk)])[x]? = H1[x]? := fun x hx => List.getElem?_append_left hx
  have hother : ∀ x q, ρ1 x = some (.lies q) → p.blk ≠ q.blk := by
    intro x q hx
    obtain ⟨b', p', g1, g2, g3⟩ := k.from_ x q hx
    have hne : b ≠ b' := by
      rintro rfl
      rcases g3 with g3 | g3
      · omega
      · exact hu g3
    rw [← g2]; exact s.mem.apart b b' p p' B0 hne hb g1 hB ho
  refine ⟨⟨⟨?_, ?_, ?_, ?_⟩, ?_, k.step.le.trans hle, ?_, ?_, k.step.frame⟩, ?_⟩
  · intro x hx
    simp
    by_cases e : x = H1.length
    · omega
    · rw [Inj.put_other _ _ e] at hx; have := hM1.dom x hx; omega
  · intro x hx
    by_cases e : x = H1.length
    · subst e; rw [Inj.put_same] at hx; cases hx
    · rw [Inj.put_other _ _ e] at hx
      rw [hget x (hM1.dom x (by simp [hx]))]; exact hM1.gone x hx
  · intro x q hx
    by_cases e : x = H1.length
    · subst e; rw [Inj.put_same] at hx; cases hx
      refine ⟨⟨(B0.cells.drop i).take m, B0.esz, true⟩, by simp, ⟨l.old, l.esz, l.pos, by simp; omega, fun j v hj => ?_, fun _ j hj => ?_⟩⟩
      · dsimp only at hj ⊢
        rw [drop_take_get] at hj
        by_cases hjm : j < m
        · rw [if_pos hjm] at hj
          obtain ⟨V, h1, h2⟩ := l.cell _ v hj
          have hpv : plain v = true := List.all_eq_true.1 hp v (List.mem_of_getElem? hj)
          exact ⟨V, by rw [Nat.add_assoc]; exact h1, flat1_vr (by unfold flat1; split <;> first | (simp [plain] at hpv; done) | exact hpv) h2⟩
        · rw [if_neg hjm] at hj; cases hj
      · dsimp only at hj ⊢
        rw [Nat.add_assoc]; exact l.mine ho (i + j) (by omega)
    · rw [Inj.put_other _ _ e] at hx
      obtain ⟨B', hB', l'⟩ := hM1.lies x q hx
      exact ⟨B', by rw [hget x (hM1.dom x (by simp [hx]))]; exact hB', ⟨l'.old, l'.esz, l'.pos, l'.len, fun j v hv => let ⟨V, h1, h2⟩ := l'.cell j v hv; ⟨V, h1, h2.mono hle⟩, l'.mine⟩⟩
  · intro x y q q' B' hne hx hy hB' ho'
    by_cases e : x = H1.length
    · subst e; rw [Inj.put_same] at hx; cases hx
      rw [Inj.put_other _ _ (Ne.symm hne)] at hy
      exact hother y q' hy
    · rw [Inj.put_other _ _ e] at hx
      rw [hget x (hM1.dom x (by simp [hx]))] at hB'
      by_cases e' : y = H1.length
      · subst e'; rw [Inj.put_same] at hy; cases hy
        exact (hother x q hx).symm
      · rw [Inj.put_other _ _ e'] at hy
        exact hM1.apart x y q q' B' hne hx hy hB' ho'
  · simp; have := k.step.len; omega
  · intro x hx hn
    have hx1 : x ≠ H1.length := by have := k.step.len; omega
    rw [Inj.put_other _ _ hx1]; exact k.step.fresh x hx hn
  · intro x q B' hx hB' hk
    by_cases e : x = H1.length
    · subst e; rw [Inj.put_same] at hx; cases hx
      obtain ⟨b0, p0, B00, g1, g2, g3, g4⟩ := s.placed b p B0 hb hB hk
      exact ⟨b0, p0, B00, g1, g2, g3, fun _ => g4 ho⟩
    · rw [Inj.put_other _ _ e] at hx
      rw [hget x (hM1.dom x (by simp [hx]))] at hB'
      exact k.step.placed x q B' hx hB' hk
  · intro x q hx
    by_cases e : x = H1.length
    · subst e; rw [Inj.put_same] at hx; cases hx
      exact ⟨b, p, hb, rfl, .inr (by simp)⟩
    · rw [Inj.put_other _ _ e] at hx
      obtain ⟨b', p', g1, g2, g3⟩ := k.from_ x q hx
      exact ⟨b', p', g1, g2, g3.imp id (fun h => by simp [h])⟩

/-- a slice over a block that is kept -/
theorem kept_slice {ρ' ρ1 : Inj} {b i n c h1 : Nat} {p : Place} {B : Blk} {T : Heap} {W' : World} {V : Value} (hM : Mem ρ' T W') (hv : VR ρ' (.slice (some ⟨b, i, none⟩) n c) V) (hB : T[b]? = some B) (ho : B.own = true)
    (hc : c = 0 ∨ i + c * B.esz ≤ B.cells.length) : ∃ p, ρ' b = some (.lies p) ∧ ∀ ρ2 : Inj, ρ2 h1 = some (.lies ⟨p.blk, p.off + i, p.ext - i, p.esz⟩) → VR ρ2 (.slice (some ⟨h1, 0, none⟩) n 0) V := by
  have alive : ∀ s, ρ' b = some s → ∃ p, s = .lies p := by
    intro s hs
    cases s with
    | lies p => exact ⟨p, rfl⟩
    | dead => have := hM.gone b hs; rw [hB] at this; cases this; simp [deadBlk] at ho
  cases hv with
  | slice _ _ _ _ q C hq g1 g2 g3 =>
    refine ⟨q, hq, fun ρ2 h2 => ?_⟩
    obtain ⟨B0, hB0, l⟩ := hM.lies b q hq
    obtain rfl : B0 = B := by rw [hB] at hB0; exact (Option.some.inj hB0).symm
    refine .slice h1 0 n 0 ⟨q.blk, q.off + i, q.ext - i, q.esz⟩ C h2 g1 (.inl rfl) (fun _ => ?_)
    have hle := l.len
    have hez := l.esz
    show 0 + C * q.esz ≤ q.ext - i
    rcases hc with rfl | hc
    · have := g3 rfl; omega
    · rcases g2 with rfl | rfl
      · have := g3 rfl; omega
      · rw [hez]; omega
  | sliceNone _ _ A hq =>
    cases hs : ρ' b with
    | none => exact absurd hs hq
    | some s =>
      obtain ⟨p, rfl⟩ := alive s hs
      exact ⟨p, rfl, fun ρ2 h2 => .sliceNone h1 0 A (by simp [h2])⟩
  | sliceDead _ _ _ _ A C hq g1 g2 => obtain ⟨p, e⟩ := alive _ hq; cases e

section
variable {P : Program} {f : FuncId} {args : Array Value} {H H1 G : Heap}

theorem Sim.mono {v v' : Value} {H' H'' : Heap} (h : Sim P f args H v H')
    (k : ∀ ρ W V ρ' W', Mem ρ H W → VR ρ' v V → Step ρ H W ρ' H' W' → ∃ ρ'', VR ρ'' v' V ∧ Step ρ H W ρ'' H'' W') : Sim P f args H v' H'' := by
  refine ⟨h.1, fun ρ W ARGS hM hA => (h.2 ρ W ARGS hM hA).mono ?_⟩
  rintro e W' ⟨V, ρ', rfl, hv, hs⟩
  obtain ⟨ρ'', h1, h2⟩ := k ρ W V ρ' W' hM hv hs
  exact ⟨V, ρ'', rfl, h1, h2⟩

/-- the result has no addresses: what was made is dropped -/
theorem Sim.flat {v : Value} (h : Sim P f args H v (H1 ++ G)) (hc : Calm H H1) (hf : flat v = true) : Sim P f args H v H1 :=
  h.mono fun ρ W V ρ' W' hM hv hs => ⟨ρ'.cutTo ρ, flat_vr hf hv, hs.drop hM hc⟩

/-- the result is a slice of a new row of plain cells -/
theorem Sim.slice {b i n c : Nat} {B : Blk} (h : Sim P f args H (.slice (some ⟨b, i, none⟩) n c) (H1 ++ G)) (hc : Calm H H1) (hb : H.length ≤ b) (hB : (H1 ++ G)[b]? = some B) (ho : B.own = true)
    (hp : B.cells.all plain = true) (hn : i + n * B.esz ≤ B.cells.length) (hcap : c = 0 ∨ i + c * B.esz ≤ B.cells.length) :
    Sim P f args H (.slice (some ⟨H.length, 0, none⟩) n 0) (H1 ++ [⟨(B.cells.drop i).take (n * B.esz), B.esz, true⟩]) :=
  h.mono fun ρ W V ρ' W' hM hv hs => by
    obtain ⟨p, g1, g2⟩ := kept_slice (ρ1 := ρ') (h1 := H1.length) (p := ⟨0, 0, 0, 0⟩) hs.mem hv hB ho hcap
    have k := Kept.one hs (Kept.nil0 hM hc hs) (i := i) (m := n * B.esz) g1 hB ho hp hb (by simp) hn
    refine ⟨_, ?_, k.step⟩
    rw [← hc.1]; exact g2 _ (Inj.put_same _ _ _)

/-- a slice of a new row, and something without addresses -/
theorem Sim.slice_flat {b i n c : Nat} {B : Blk} {x : Value} (h : Sim P f args H (.tuple #[.slice (some ⟨b, i, none⟩) n c, x]) (H1 ++ G)) (hc : Calm H H1) (hx : flat1 x = true) (hb : H.length ≤ b) (hB : (H1 ++ G)[b]? = some B) (ho : B.own = true)
    (hp : B.cells.all plain = true) (hn : i + n * B.esz ≤ B.cells.length) (hcap : c = 0 ∨ i + c * B.esz ≤ B.cells.length) :
    Sim P f args H (.tuple #[.slice (some ⟨H.length, 0, none⟩) n 0, x]) (H1 ++ [⟨(B.cells.drop i).take (n * B.esz), B.esz, true⟩]) :=
  h.mono fun ρ W V ρ' W' hM hv hs => by
    obtain ⟨X, rfl, hX⟩ := hv.tuple_inv
    obtain ⟨S, k1, k2⟩ := hX.get (i := 0) (v := .slice (some ⟨b, i, none⟩) n c) rfl
    obtain ⟨Y, k3, k4⟩ := hX.get (i := 1) (v := x) rfl
    obtain ⟨p, g1, g2⟩ := kept_slice (ρ1 := ρ') (h1 := H1.length) (p := ⟨0, 0, 0, 0⟩) hs.mem k2 hB ho hcap
    have k := Kept.one hs (Kept.nil0 hM hc hs) (i := i) (m := n * B.esz) g1 hB ho hp hb (by simp) hn
    refine ⟨_, ?_, k.step⟩
    refine .tuple _ _ hX.1 (fun j h1 h2 => ?_)
    have e0 := (Array.getElem?_eq_some_iff.1 k1).2
    have e1 := (Array.getElem?_eq_some_iff.1 k3).2
    match j, h1, h2 with
    | 0, h1, h2 => simp only [e0]; simp; rw [← hc.1]; exact g2 _ (Inj.put_same _ _ _)
    | 1, h1, h2 => simp only [e1]; exact flat1_vr hx k4

/-- two slices of two new rows -/
theorem Sim.slice2 {b i n c b' i' n' c' : Nat} {B B' : Blk} (h : Sim P f args H (.tuple #[.slice (some ⟨b, i, none⟩) n c, .slice (some ⟨b', i', none⟩) n' c']) (H1 ++ G)) (hc : Calm H H1)
    (hb : H.length ≤ b) (hB : (H1 ++ G)[b]? = some B) (ho : B.own = true) (hp : B.cells.all plain = true) (hn : i + n * B.esz ≤ B.cells.length) (hcap : c = 0 ∨ i + c * B.esz ≤ B.cells.length)
    (hb' : H.length ≤ b') (hB' : (H1 ++ G)[b']? = some B') (ho' : B'.own = true) (hp' : B'.cells.all plain = true) (hn' : i' + n' * B'.esz ≤ B'.cells.length) (hcap' : c' = 0 ∨ i' + c' * B'.esz ≤ B'.cells.length) (hne : b ≠ b') :
    Sim P f args H (.tuple #[.slice (some ⟨H.length, 0, none⟩) n 0, .slice (some ⟨H.length + 1, 0, none⟩) n' 0]) (H1 ++ [⟨(B.cells.drop i).take (n * B.esz), B.esz, true⟩] ++ [⟨(B'.cells.drop i').take (n' * B'.esz), B'.esz, true⟩]) :=
  h.mono fun ρ W V ρ' W' hM hv hs => by
    obtain ⟨X, rfl, hX⟩ := hv.tuple_inv
    obtain ⟨S, k1, k2⟩ := hX.get (i := 0) (v := .slice (some ⟨b, i, none⟩) n c) rfl
    obtain ⟨Y, k3, k4⟩ := hX.get (i := 1) (v := .slice (some ⟨b', i', none⟩) n' c') rfl
    obtain ⟨p, g1, g2⟩ := kept_slice (ρ1 := ρ') (h1 := H1.length) (p := ⟨0, 0, 0, 0⟩) hs.mem k2 hB ho hcap
    obtain ⟨p', g1', g2'⟩ := kept_slice (ρ1 := ρ') (h1 := H1.length + 1) (p := ⟨0, 0, 0, 0⟩) hs.mem k4 hB' ho' hcap'
    have ka := Kept.one hs (Kept.nil0 hM hc hs) (i := i) (m := n * B.esz) g1 hB ho hp hb (by simp) hn
    have k := Kept.one hs ka (i := i') (m := n' * B'.esz) g1' hB' ho' hp' hb' (by simpa using Ne.symm hne) hn'
    refine ⟨_, ?_, k.step⟩
    refine .tuple _ _ hX.1 (fun j h1 h2 => ?_)
    have e0 := (Array.getElem?_eq_some_iff.1 k1).2
    have e1 := (Array.getElem?_eq_some_iff.1 k3).2
    match j, h1, h2 with
    | 0, h1, h2 => simp only [e0]; simp; rw [← hc.1]; exact g2 _ (by rw [Inj.put_other _ _ (by simp)]; exact Inj.put_same _ _ _)
    | 1, h1, h2 => simp only [e1]; simp; rw [← hc.1]; exact g2' _ (by simp [Inj.put])
end
end Go.Fw
set_option linter.unusedSimpArgs false
set_option linter.unusedVariables false
namespace Go.Fw
open Go

def upd (s : Slots) (d : Nat) (v : Value) : Slots := fun t => if t = d then v else s t
theorem upd_at (s : Slots) (d : Nat) (v : Value) (t : Nat) : upd s d v t = if t = d then v else s t := rfl
theorem put_some (s : Slots) (d : Nat) (v : Value) : s.put (some d) v = upd s d v := rfl
theorem put_none (s : Slots) (v : Value) : s.put none v = s := rfl
theorem ev_tmp (s : Slots) (t : Nat) : ev s (.tmp t) = s t := rfl
theorem ev_const (s : Slots) (v : Value) : ev s (.const v) = v := rfl
theorem ev_func (s : Slots) (f : Nat) : ev s (.func f) = .func (.func f) #[] #[] := rfl

/-- operations in the text's order -/
def AxL (tt : TT) (S : ACall) (q : Bool) (ops : Array Oper) (K : Slots → Heap → Prop) : List Oper → Slots → Heap → Prop
  | [], s, H => K s H
  | o :: l, s, H => ∃ s' H', AOp tt S q ops o s H s' H' ∧ AxL tt S q ops K l s' H'

theorem axI_of_axL {tt : TT} {S : ACall} {q : Bool} {ops : Array Oper} {K : Slots → Heap → Prop} : ∀ (n k : Nat) (s : Slots) (H : Heap), k + n = ops.size → AxL tt S q ops K (ops.toList.drop k) s H → AxI tt S q ops K (List.range' k n) s H := by
  intro n
  induction n with
  | zero =>
    intro k s H hk h
    rw [List.drop_of_length_le (by simp; omega)] at h
    exact h
  | succ n ih =>
    intro k s H hk h
    have hlt : k < ops.size := by omega
    rw [List.drop_eq_getElem_cons (by simpa using hlt)] at h
    rw [List.range'_succ]
    unfold AxI
    rw [Array.getElem?_eq_getElem hlt]
    obtain ⟨s', H', h1, h2⟩ := h
    exact ⟨s', H', by simpa using h1, ih (k + 1) s' H' (by omega) h2⟩

theorem axI_list {tt : TT} {S : ACall} {q : Bool} {ops : Array Oper} {K : Slots → Heap → Prop} {s : Slots} {H : Heap} (h : AxL tt S q ops K ops.toList s H) : AxI tt S q ops K (List.range ops.size) s H := by
  rw [List.range_eq_range']
  exact axI_of_axL ops.size 0 s H (by omega) (by simpa using h)

section
variable {tt : TT} {S : ACall} {q : Bool} {ops : Array Oper} {K : Slots → Heap → Prop} {Q : APost} {s : Slots} {H : Heap}

theorem ax_reg {id : Nat} (h : AxL tt S false ops (Q .normal) ops.toList s H) : Ax tt S (.region id ops false) Q s H := by
  show AxReg tt S ops false (Q .normal) s H
  unfold AxReg
  simp only [Bool.false_eq_true, if_false]
  exact axI_list h
theorem ax_quiet {id : Nat} (hO : regOk true ops = true) (h : AxL tt S true ops (Q .normal) ops.toList s H) : Ax tt S (.region id ops true) Q s H := by
  show AxReg tt S ops true (Q .normal) s H
  unfold AxReg
  simp only [if_true]
  exact .inl ⟨hO, axI_list h⟩
theorem ax_loud {id : Nat} (hO : regOk false ops = true) (h : AxL tt S false ops (Q .normal) ops.toList s H) : Ax tt S (.region id ops true) Q s H := by
  show AxReg tt S ops true (Q .normal) s H
  unfold AxReg
  simp only [if_true]
  exact .inr (.inl ⟨hO, axI_list h⟩)
theorem ax_seq {a b : Code} (h : Ax tt S a (AEx.thn (Ax tt S b Q) Q) s H) : Ax tt S (.seq a b) Q s H := h
theorem ax_block {id : Nat} {b : Code} (h : Ax tt S b (AEx.inBlock id Q) s H) : Ax tt S (.block id b) Q s H := h
theorem ax_cond {c : Operand} {x y : Code} (b : Bool) (hb : ev s c = .bool b) (h : if b = true then Ax tt S x Q s H else Ax tt S y Q s H) : Ax tt S (.cond c x y) Q s H := ⟨b, hb, h⟩

/-- what one operation that is no call of a Go function, and has no guard, leaves -/
theorem axl_op {o : Oper} {l : List Oper} {v : Value} {H' : Heap} (hw : wantedA ops s o = true) (hc : clsOf o.op ≠ .call) (h : aop tt o.op (ev s) H = some (v, H')) (k : AxL tt S q ops K l (s.put o.dst v) H') : AxL tt S q ops K (o :: l) s H :=
  ⟨_, H', by unfold AOp; rw [if_pos hw]; exact (AStep_plain hc).2 ⟨v, h, rfl⟩, k⟩
theorem axl_skip {o : Oper} {l : List Oper} (hw : wantedA ops s o = false) (k : AxL tt S q ops K l (s.put o.dst undef) H) : AxL tt S q ops K (o :: l) s H :=
  ⟨_, H, by unfold AOp; rw [if_neg (by rw [hw]; simp)]; exact ⟨rfl, rfl⟩, k⟩
theorem axl_call {o : Oper} {l : List Oper} {f : Operand} {args : Array Operand} {tys : Array TypeId} {g : FuncId} {first cap : Array Value} {v : Value} {H' : Heap} (hw : wantedA ops s o = true)
    (ho : o.op = .call { callee := .value f, args := args, argTypes := tys }) (hf : ev s f = .func (.func g) first cap) (hS : S (.func g) (first ++ args.map (ev s) ++ cap) H v H') (hq : q = true → ∃ G, H' = H ++ G)
    (k : AxL tt S q ops K l (s.put o.dst v) H') : AxL tt S q ops K (o :: l) s H :=
  ⟨_, H', by unfold AOp; rw [if_pos hw]; unfold AStep; rw [ho]; exact .inl ⟨g, first, cap, v, hf, hS, hq, rfl⟩, k⟩

/-- the same as equations -/
theorem AxL_nil : AxL tt S q ops K [] s H = K s H := rfl
def opThen (tt : TT) (op : Op) (s : Slots) (H : Heap) (k : Value → Heap → Prop) : Prop := match aop tt op (ev s) H with | some (v, H') => k v H' | none => False
theorem AxL_op {dst : Option Tmp} {op : Op} {ty : TypeId} {pos : String} {af : Array Edge} {l : List Oper} (hc : clsOf op ≠ .call) :
    AxL tt S q ops K (⟨dst, op, ty, pos, af, none⟩ :: l) s H = opThen tt op s H (fun v H' => AxL tt S q ops K l (s.put dst v) H') := by
  apply propext
  constructor
  · rintro ⟨s', H', h1, h2⟩
    unfold AOp at h1
    rw [if_pos (show wantedA ops s ⟨dst, op, ty, pos, af, none⟩ = true from rfl)] at h1
    obtain ⟨v, h3, rfl⟩ := (AStep_plain hc).1 h1
    unfold opThen
    rw [h3]; exact h2
  · intro h
    unfold opThen at h
    split at h
    · rename_i v H' h3
      exact axl_op rfl hc h3 h
    · exact h.elim

theorem thn_normal {K : Slots → Heap → Prop} : AEx.thn K Q .normal s H = K s H := rfl
theorem thn_ret {K : Slots → Heap → Prop} : AEx.thn K Q .ret s H = Q .ret s H := rfl
theorem thn_exit {K : Slots → Heap → Prop} {id : Nat} : AEx.thn K Q (.exit id) s H = Q (.exit id) s H := rfl
theorem inb_normal {id : Nat} : AEx.inBlock id Q .normal s H = Q .normal s H := rfl
theorem inb_ret {id : Nat} : AEx.inBlock id Q .ret s H = Q .ret s H := rfl
theorem inb_exit {id id' : Nat} : AEx.inBlock id Q (.exit id') s H = if id' = id then Q .normal s H else Q (.exit id') s H := rfl

/-! ### the heap: an old part, and blocks behind it -/
theorem hp_get (L : Heap) (j : Nat) : (H ++ L)[H.length + j]? = L[j]? := by
  rw [List.getElem?_append_right (by omega)]; congr 1; omega
theorem hp_get0 (L : Heap) : (H ++ L)[H.length]? = L[0]? := by
  rw [List.getElem?_append_right (by omega)]; congr 1; omega
theorem hp_set (L : Heap) (j : Nat) (B : Blk) : (H ++ L).set (H.length + j) B = H ++ L.set j B := by
  rw [List.set_append_right _ _ (by omega)]; congr 1; congr 1; omega
theorem hp_set0 (L : Heap) (B : Blk) : (H ++ L).set H.length B = H ++ L.set 0 B := by
  rw [List.set_append_right _ _ (by omega)]; congr 1; congr 1; omega
theorem hp_len (L : Heap) : (H ++ L).length = H.length + L.length := List.length_append

/-- loops: by a relation and a measure -/
theorem Ax_mono : ∀ (c : Code) {Q Q' : APost} {s : Slots} {H : Heap}, Ax tt S c Q s H → (∀ e s H, Q e s H → Q' e s H) → Ax tt S c Q' s H := by
  have regI : ∀ {q : Bool} {ops : Array Oper} {K K' : Slots → Heap → Prop}, (∀ s H, K s H → K' s H) → ∀ (l : List Nat) {s : Slots} {H : Heap}, AxI tt S q ops K l s H → AxI tt S q ops K' l s H := by
    intro q ops K K' hK l
    induction l with
    | nil => intro s H h; exact hK s H h
    | cons i l ih =>
      intro s H h
      unfold AxI at h ⊢
      cases ho : ops[i]? with
      | none => rw [ho] at h; exact ih h
      | some o =>
        rw [ho] at h
        obtain ⟨s', H', h1, h2⟩ := h
        exact ⟨s', H', h1, ih h2⟩
  intro c
  induction c with
  | skip => intro Q Q' s H h hQ; exact hQ _ _ _ h
  | region id ops draw =>
    intro Q Q' s H h hQ
    have h' : AxReg tt S ops draw (Q .normal) s H := h
    show AxReg tt S ops draw (Q' .normal) s H
    unfold AxReg at h' ⊢
    split at h'
    · rename_i hd
      rw [if_pos hd]
      rcases h' with ⟨hO, h'⟩ | ⟨hO, h'⟩ | ⟨s1, H1, h', hK⟩
      · exact .inl ⟨hO, regI (fun s H => hQ .normal s H) _ h'⟩
      · exact .inr (.inl ⟨hO, regI (fun s H => hQ .normal s H) _ h'⟩)
      · exact .inr (.inr ⟨s1, H1, h', hQ .normal s1 H1 hK⟩)
    · rename_i hd
      rw [if_neg hd]
      exact regI (fun s H => hQ .normal s H) _ h'
  | seq x y ihx ihy =>
    intro Q Q' s H h hQ
    refine ihx h ?_
    intro e s H h
    cases e with
    | normal => exact ihy h hQ
    | exit id => exact hQ _ _ _ h
    | ret => exact hQ _ _ _ h
  | cond c t e iht ihe =>
    intro Q Q' s H h hQ
    obtain ⟨b, hb, h⟩ := h
    refine ⟨b, hb, ?_⟩
    cases b with
    | true => exact iht (by simpa using h) hQ
    | false => exact ihe (by simpa using h) hQ
  | block id b ih =>
    intro Q Q' s H h hQ
    refine ih h ?_
    intro e s H h
    cases e with
    | normal => exact hQ _ _ _ h
    | ret => exact hQ _ _ _ h
    | exit id' =>
      simp only [AEx.inBlock] at h ⊢
      split at h
      · rename_i he; rw [if_pos he]; exact hQ _ _ _ h
      · rename_i he; rw [if_neg he]; exact hQ _ _ _ h
  | loop b ih =>
    intro Q Q' s H h hQ
    obtain ⟨n, h⟩ := h
    refine ⟨n, ?_⟩
    induction n generalizing s H with
    | zero => exact h.elim
    | succ n ihn =>
      refine ih h ?_
      intro e s H h
      cases e with
      | normal => exact ihn h
      | exit id => exact hQ _ _ _ h
      | ret => exact hQ _ _ _ h
  | exit id => intro Q Q' s H h hQ; exact hQ _ _ _ h
  | ret => intro Q Q' s H h hQ; exact hQ _ _ _ h
  | rangeFunc f ps x y _ _ => intro Q Q' s H h; exact h.elim
  | scope b _ => intro Q Q' s H h; exact h.elim
  | label l => intro Q Q' s H h; exact h.elim
  | goto l => intro Q Q' s H h; exact h.elim
  | refuse w => intro Q Q' s H h; exact h.elim

/-- there is one way through -/
def exactly (e : AEx) (s : Slots) (H : Heap) : APost := fun e1 s1 H1 => e1 = e ∧ s1 = s ∧ H1 = H
theorem ax_path : ∀ (c : Code) {Q : APost} {s : Slots} {H : Heap}, Ax tt S c Q s H → ∃ e s' H', Ax tt S c (exactly e s' H') s H ∧ Q e s' H' := by
  have regI : ∀ {q : Bool} {ops : Array Oper} {K : Slots → Heap → Prop} (l : List Nat) {s : Slots} {H : Heap}, AxI tt S q ops K l s H → ∃ s' H', AxI tt S q ops (exactly .normal s' H' .normal) l s H ∧ K s' H' := by
    intro q ops K l
    induction l with
    | nil => intro s H h; exact ⟨s, H, ⟨rfl, rfl, rfl⟩, h⟩
    | cons i l ih =>
      intro s H h
      unfold AxI at h ⊢
      cases ho : ops[i]? with
      | none => rw [ho] at h; exact ih h
      | some o =>
        rw [ho] at h
        obtain ⟨s', H', h1, h2⟩ := h
        obtain ⟨s2, H2, h3, h4⟩ := ih h2
        exact ⟨s2, H2, ⟨s', H', h1, h3⟩, h4⟩
  intro c
  induction c with
  | skip => intro Q s H h; exact ⟨.normal, s, H, ⟨rfl, rfl, rfl⟩, h⟩
  | region id ops draw =>
    intro Q s H h
    have h' : AxReg tt S ops draw (Q .normal) s H := h
    unfold AxReg at h'
    split at h'
    · rename_i hd
      rcases h' with ⟨hO, h'⟩ | ⟨hO, h'⟩ | ⟨s1, H1, h', hK⟩
      · obtain ⟨s', H', h1, h2⟩ := regI _ h'
        exact ⟨.normal, s', H', by show AxReg tt S ops draw _ s H; unfold AxReg; rw [if_pos hd]; exact .inl ⟨hO, h1⟩, h2⟩
      · obtain ⟨s', H', h1, h2⟩ := regI _ h'
        exact ⟨.normal, s', H', by show AxReg tt S ops draw _ s H; unfold AxReg; rw [if_pos hd]; exact .inr (.inl ⟨hO, h1⟩), h2⟩
      · exact ⟨.normal, s1, H1, by show AxReg tt S ops draw _ s H; unfold AxReg; rw [if_pos hd]; exact .inr (.inr ⟨s1, H1, h', rfl, rfl, rfl⟩), hK⟩
    · rename_i hd
      obtain ⟨s', H', h1, h2⟩ := regI _ h'
      exact ⟨.normal, s', H', by show AxReg tt S ops draw _ s H; unfold AxReg; rw [if_neg hd]; exact h1, h2⟩
  | seq x y ihx ihy =>
    intro Q s H h
    obtain ⟨e, s1, H1, h1, h2⟩ := ihx h
    cases e with
    | normal =>
      obtain ⟨e, s2, H2, h3, h4⟩ := ihy h2
      refine ⟨e, s2, H2, Ax_mono x h1 ?_, h4⟩
      rintro _ _ _ ⟨rfl, rfl, rfl⟩
      exact h3
    | exit id =>
      refine ⟨.exit id, s1, H1, Ax_mono x h1 ?_, h2⟩
      rintro _ _ _ ⟨rfl, rfl, rfl⟩
      exact ⟨rfl, rfl, rfl⟩
    | ret =>
      refine ⟨.ret, s1, H1, Ax_mono x h1 ?_, h2⟩
      rintro _ _ _ ⟨rfl, rfl, rfl⟩
      exact ⟨rfl, rfl, rfl⟩
  | cond c t e iht ihe =>
    intro Q s H h
    obtain ⟨b, hb, h⟩ := h
    cases b with
    | true =>
      obtain ⟨e1, s1, H1, h1, h2⟩ := iht (by simpa using h)
      exact ⟨e1, s1, H1, ⟨true, hb, by simpa using h1⟩, h2⟩
    | false =>
      obtain ⟨e1, s1, H1, h1, h2⟩ := ihe (by simpa using h)
      exact ⟨e1, s1, H1, ⟨false, hb, by simpa using h1⟩, h2⟩
  | block id b ih =>
    intro Q s H h
    obtain ⟨e, s1, H1, h1, h2⟩ := ih h
    cases e with
    | normal =>
      refine ⟨.normal, s1, H1, Ax_mono b h1 ?_, h2⟩
      rintro _ _ _ ⟨rfl, rfl, rfl⟩
      exact ⟨rfl, rfl, rfl⟩
    | ret =>
      refine ⟨.ret, s1, H1, Ax_mono b h1 ?_, h2⟩
      rintro _ _ _ ⟨rfl, rfl, rfl⟩
      exact ⟨rfl, rfl, rfl⟩
    | exit id' =>
      simp only [AEx.inBlock] at h2
      split at h2
      · rename_i he
        refine ⟨.normal, s1, H1, Ax_mono b h1 ?_, h2⟩
        rintro _ _ _ ⟨rfl, rfl, rfl⟩
        simp only [AEx.inBlock]; rw [if_pos he]; exact ⟨rfl, rfl, rfl⟩
      · rename_i he
        refine ⟨.exit id', s1, H1, Ax_mono b h1 ?_, h2⟩
        rintro _ _ _ ⟨rfl, rfl, rfl⟩
        simp only [AEx.inBlock]; rw [if_neg he]; exact ⟨rfl, rfl, rfl⟩
  | loop b ih =>
    intro Q s H h
    obtain ⟨n, h⟩ := h
    have key : ∀ n s H, AxLoop (Ax tt S b) Q n s H → ∃ e s' H', AxLoop (Ax tt S b) (exactly e s' H') n s H ∧ Q e s' H' := by
      intro n
      induction n with
      | zero => intro s H h; exact h.elim
      | succ n ihn =>
        intro s H h
        obtain ⟨e, s1, H1, h1, h2⟩ := ih h
        cases e with
        | normal =>
          obtain ⟨e, s2, H2, h3, h4⟩ := ihn _ _ h2
          refine ⟨e, s2, H2, Ax_mono b h1 ?_, h4⟩
          rintro _ _ _ ⟨rfl, rfl, rfl⟩
          exact h3
        | exit id =>
          refine ⟨.exit id, s1, H1, Ax_mono b h1 ?_, h2⟩
          rintro _ _ _ ⟨rfl, rfl, rfl⟩
          exact ⟨rfl, rfl, rfl⟩
        | ret =>
          refine ⟨.ret, s1, H1, Ax_mono b h1 ?_, h2⟩
          rintro _ _ _ ⟨rfl, rfl, rfl⟩
          exact ⟨rfl, rfl, rfl⟩
    obtain ⟨e, s1, H1, h1, h2⟩ := key n s H h
    exact ⟨e, s1, H1, ⟨n, h1⟩, h2⟩
  | exit id => intro Q s H h; exact ⟨.exit id, s, H, ⟨rfl, rfl, rfl⟩, h⟩
  | ret => intro Q s H h; exact ⟨.ret, s, H, ⟨rfl, rfl, rfl⟩, h⟩
  | rangeFunc f ps x y _ _ => intro Q s H h; exact h.elim
  | scope b _ => intro Q s H h; exact h.elim
  | label l => intro Q s H h; exact h.elim
  | goto l => intro Q s H h; exact h.elim
  | refuse w => intro Q s H h; exact h.elim

theorem AxLoop_up {b : Code} : ∀ (n : Nat) {Q : APost} {s : Slots} {H : Heap}, AxLoop (Ax tt S b) Q n s H → AxLoop (Ax tt S b) Q (n + 1) s H := by
  intro n
  induction n with
  | zero => intro Q s H h; exact h.elim
  | succ n ih =>
    intro Q s H h
    refine Ax_mono b h ?_
    intro e s H h
    cases e with
    | normal => exact ih h
    | exit id => exact h
    | ret => exact h
theorem AxLoop_le {b : Code} {m n : Nat} (hmn : n ≤ m) {Q : APost} {s : Slots} {H : Heap} (h : AxLoop (Ax tt S b) Q n s H) : AxLoop (Ax tt S b) Q m s H := by
  induction hmn with
  | refl => exact h
  | step _ ih => exact AxLoop_up _ ih

theorem ax_loop {b : Code} (I : Slots → Heap → Prop) (μ : Slots → Heap → Nat) (h0 : I s H)
    (round : ∀ s H, I s H → Ax tt S b (fun e s' H' => match e with | .normal => I s' H' ∧ μ s' H' < μ s H | e => Q e s' H') s H) : Ax tt S (.loop b) Q s H := by
  have key : ∀ n s H, μ s H < n → I s H → AxLoop (Ax tt S b) Q n s H := by
    intro n
    induction n with
    | zero => intro s H hm; omega
    | succ n ih =>
      intro s H hm hI
      refine Ax_mono b (round s H hI) ?_
      intro e s' H' h
      cases e with
      | normal => exact ih s' H' (by have := h.2; omega) h.1
      | exit id => exact h
      | ret => exact h
  exact ⟨μ s H + 1, key _ s H (Nat.lt_succ_self _) h0⟩
end

/-- what a body comes to, whatever it is -/
theorem sim_ex {P : Program} {tt : TT} {f : FuncId} {fn : Func} {c : Code} {args : Array Value} {H : Heap} {R : Value → Heap → Prop} (hT : TOK P tt) (hmix : P.follows .mixedOrders = true) (hf : P.funcs[f]? = some fn) (hb : fn.body = some c)
    (hname : (fn.name == "runtime.NumGoroutine") = false) (hok : codeOk fn.ntmps c = true) (ha : args.size ≤ fn.ntmps)
    (h : Ax tt (SimF P) c (retP tt fn (fun vs H' => R (resV vs) H')) (ini args) H) : ∃ v H', Sim P f args H v H' ∧ R v H' := by
  obtain ⟨e, s1, H1, h1, h2⟩ := ax_path c h
  have key : ∃ vs, resL tt s1 H1 fn.results.toList = some vs ∧ R (resV vs) H1 ∧ (e = .normal ∨ e = .ret) := by
    cases e with
    | normal => obtain ⟨vs, a, b⟩ := h2; exact ⟨vs, a, b, .inl rfl⟩
    | ret => obtain ⟨vs, a, b⟩ := h2; exact ⟨vs, a, b, .inr rfl⟩
    | exit id => exact h2.elim
  obtain ⟨vs, a, b, he⟩ := key
  refine ⟨resV vs, H1, sim_of_ax hT hmix hf hb hname hok ha (Ax_mono c h1 ?_), b⟩
  rintro e' s' H' ⟨rfl, rfl, rfl⟩
  rcases he with rfl | rfl
  · exact ⟨vs, a, rfl, rfl⟩
  · exact ⟨vs, a, rfl, rfl⟩
end Go.Fw
set_option linter.unusedSimpArgs false
set_option linter.unusedVariables false
namespace Go.Fw
open Go

def eqFs (P : Program) (rec : TypeId → Option (List TD)) : List Field → Nat → Option (List TD)
  | [], _ => some []
  | f :: fs, o =>
    match rec f.type with
    | some ks =>
      if (f.name == "_") = false ∧ f.offset = o ∧ (P.info? f.type).map (·.size) = some ks.length then
        match eqFs P rec fs (o + ks.length) with
        | some ks' => some (ks ++ ks')
        | none => none
      else none
    | none => none
def eqKs (P : Program) : Nat → TypeId → Option (List TD)
  | 0, _ => none
  | d + 1, t =>
    match P.underlying t with
    | some .bool => some [.bool]
    | some (.int k) => some [.int k]
    | some .string => some [.str]
    | some (.struct fs) => if P.stoodInHeld t = true then none else eqFs P (eqKs P d) fs.toList 0
    | _ => none

theorem cellsEq_append : ∀ (a a' b b' : List Value), a.length = b.length → cellsEq (a ++ a') (b ++ b') = (cellsEq a b && cellsEq a' b') := by
  intro a
  induction a with
  | nil => intro a' b b' h; cases b with
    | nil => simp [cellsEq]
    | cons _ _ => simp at h
  | cons x a ih =>
    intro a' b b' h
    cases b with
    | nil => simp at h
    | cons y b => simp only [List.cons_append, cellsEq]; rw [ih a' b b' (by simpa using h), Bool.and_assoc]

/-- a value out of its cells -/
def isStruct (P : Program) (t : TypeId) : Bool := match P.underlying t with | some (.struct _) => true | _ => false

section
variable {P : Program}

theorem kinds_one {xs : List Value} {k : TD} (h : xs.map kindOf = [k].map some) : ∃ v, xs = [v] ∧ kindOf v = some k := by
  have hl : xs.length = 1 := by have := congrArg List.length h; simpa using this
  obtain ⟨v, rfl⟩ := List.length_eq_one_iff.1 hl
  exact ⟨v, rfl, by simpa using h⟩

theorem eqKs_leaf {d : Nat} {t : TypeId} {ks : List TD} (h : eqKs P d t = some ks) (hs : isStruct P t = false) (W : World) {x y : Value} (hx : [x].map kindOf = ks.map some) (hy : [y].map kindOf = ks.map some) (D : Nat) :
    (Op.equalIn (D + 1) t x y).run P W = .ok (scalarEq x y) W ∧ (isAgg t).run P W = .ok false W := by
  cases d with
  | zero => cases h
  | succ d =>
    unfold eqKs at h
    unfold isStruct at hs
    have fin : ∀ {dd : TypeDesc}, P.underlying t = some dd → (match dd with | .struct _ | .array _ _ => true | _ => false) = false → (isAgg t).run P W = .ok false W := by
      intro dd hd hb
      unfold isAgg
      simp only [Sem.run_bind, run_underlying hd, Result.andThen_ok]
      cases dd <;> first | rfl | cases hb
    split at h
    · rename_i hu
      cases h
      simp at hx hy
      cases x <;> simp [kindOf] at hx
      cases y <;> simp [kindOf] at hy
      exact ⟨by rw [Op.equalIn]; simp [run_underlying hu, scalarEq], fin hu rfl⟩
    · rename_i k hu
      cases h
      simp at hx hy
      cases x <;> simp [kindOf] at hx
      cases y <;> simp [kindOf] at hy
      subst hx; subst hy
      exact ⟨by rw [Op.equalIn]; simp [run_underlying hu, scalarEq], fin hu rfl⟩
    · rename_i hu
      cases h
      simp at hx hy
      cases x <;> simp [kindOf] at hx
      cases y <;> simp [kindOf] at hy
      exact ⟨by rw [Op.equalIn]; simp [run_underlying hu, scalarEq], fin hu rfl⟩
    · rename_i fs hu; rw [hu] at hs; cases hs
    · cases h

theorem eqFs_run {rec : TypeId → Option (List TD)} {D : Nat} (hrec : ∀ t ks, rec t = some ks → (isStruct P t = false → ∀ (W : World) (x y : Value), [x].map kindOf = ks.map some → [y].map kindOf = ks.map some → (Op.equalIn D t x y).run P W = .ok (scalarEq x y) W ∧ (isAgg t).run P W = .ok false W) ∧
      (isStruct P t = true → ∀ (W : World) (xs ys : Array Value), xs.toList.map kindOf = ks.map some → ys.toList.map kindOf = ks.map some → (Op.equalIn D t (.agg xs) (.agg ys)).run P W = .ok (cellsEq xs.toList ys.toList) W)) (hlen : ∀ t ks, rec t = some ks → isStruct P t = false → ks.length = 1)
    (W : World) (XS YS : Array Value) : ∀ (fs : List Field) (o : Nat) (ks : List TD), eqFs P rec fs o = some ks → (XS.toList.drop o).map kindOf = ks.map some → (YS.toList.drop o).map kindOf = ks.map some →
    (Op.eqFields D XS YS fs).run P W = .ok (cellsEq (XS.toList.drop o) (YS.toList.drop o)) W := by
  intro fs
  induction fs with
  | nil =>
    intro o ks h hx hy
    simp [eqFs] at h; subst h
    simp at hx hy
    rw [List.drop_of_length_le (by simpa using hx), List.drop_of_length_le (by simpa using hy)]
    simp [Op.eqFields, cellsEq]
  | cons f fs ih =>
    intro o ks h hx hy
    unfold eqFs at h
    split at h
    · rename_i k1 hk1
      split at h
      · rename_i hc
        obtain ⟨hn, ho, hsz⟩ := hc
        split at h
        · rename_i k2 hk2
          cases h
          have hn' : f.name ≠ "_" := by simpa using hn
          have hlx : (XS.toList.drop o).length = k1.length + k2.length := by have := congrArg List.length hx; simpa using this
          have hly : (YS.toList.drop o).length = k1.length + k2.length := by have := congrArg List.length hy; simpa using this
          have sx : XS.toList.drop o = (XS.toList.drop o).take k1.length ++ XS.toList.drop (o + k1.length) := by
            rw [← List.drop_drop, List.take_append_drop]
          have sy : YS.toList.drop o = (YS.toList.drop o).take k1.length ++ YS.toList.drop (o + k1.length) := by
            rw [← List.drop_drop, List.take_append_drop]
          have hx1 : ((XS.toList.drop o).take k1.length).map kindOf = k1.map some := by
            rw [List.map_take, hx]; simp
          have hy1 : ((YS.toList.drop o).take k1.length).map kindOf = k1.map some := by
            rw [List.map_take, hy]; simp
          have hx2 : (XS.toList.drop (o + k1.length)).map kindOf = k2.map some := by
            rw [← List.drop_drop, List.map_drop, hx]; simp
          have hy2 : (YS.toList.drop (o + k1.length)).map kindOf = k2.map some := by
            rw [← List.drop_drop, List.map_drop, hy]; simp
          have e := ih (o + k1.length) k2 hk2 hx2 hy2
          have hsize : (sizeOf f.type).run P W = .ok k1.length W := by
            obtain ⟨n, h1, h2⟩ := Option.map_eq_some_iff.1 hsz
            simp [sizeOf, typeInfo, h1, h2]
          have hcell : ∃ a b, (part f.type XS f.offset).run P W = .ok a W ∧ (part f.type YS f.offset).run P W = .ok b W ∧ (Op.equalIn D f.type a b).run P W = .ok (cellsEq ((XS.toList.drop o).take k1.length) ((YS.toList.drop o).take k1.length)) W := by
            cases hst : isStruct P f.type with
            | true =>
              have hagg : (isAgg f.type).run P W = .ok true W := by
                unfold isStruct at hst
                split at hst
                · rename_i gs hu
                  unfold isAgg
                  simp [run_underlying hu]
                · cases hst
              refine ⟨.agg (XS.extract f.offset (f.offset + k1.length)), .agg (YS.extract f.offset (f.offset + k1.length)), ?_, ?_, ?_⟩
              · simp only [part, Sem.run_bind, hagg, Result.andThen_ok, if_true, hsize, Sem.run_pure]
              · simp only [part, Sem.run_bind, hagg, Result.andThen_ok, if_true, hsize, Sem.run_pure]
              · have ex : (XS.extract f.offset (f.offset + k1.length)).toList = (XS.toList.drop o).take k1.length := by rw [ho]; simp [List.extract_eq_take_drop]
                have ey : (YS.extract f.offset (f.offset + k1.length)).toList = (YS.toList.drop o).take k1.length := by rw [ho]; simp [List.extract_eq_take_drop]
                have := (hrec f.type k1 hk1).2 hst W (XS.extract f.offset (f.offset + k1.length)) (YS.extract f.offset (f.offset + k1.length)) (by rw [ex]; exact hx1) (by rw [ey]; exact hy1)
                rw [ex, ey] at this; exact this
            | false =>
              have h1 := hlen f.type k1 hk1 hst
              obtain ⟨k, rfl⟩ := List.length_eq_one_iff.1 h1
              obtain ⟨a, ha, hka⟩ := kinds_one hx1
              obtain ⟨b, hb, hkb⟩ := kinds_one hy1
              obtain ⟨e1, e2⟩ := (hrec f.type [k] hk1).1 hst W a b (by simp [hka]) (by simp [hkb])
              have ga : XS[o]? = some a := by
                have := congrArg (·[0]?) ha
                simpa using this
              have gb : YS[o]? = some b := by
                have := congrArg (·[0]?) hb
                simpa using this
              refine ⟨a, b, ?_, ?_, ?_⟩
              · simp only [part, Sem.run_bind, e2, Result.andThen_ok, Bool.false_eq_true, if_false, ho, ga, Sem.run_pure]
              · simp only [part, Sem.run_bind, e2, Result.andThen_ok, Bool.false_eq_true, if_false, ho, gb, Sem.run_pure]
              · rw [ha, hb]; simp [cellsEq, e1]
          obtain ⟨a, b, ha, hb, hab⟩ := hcell
          have efin : cellsEq (XS.toList.drop o) (YS.toList.drop o) = (cellsEq ((XS.toList.drop o).take k1.length) ((YS.toList.drop o).take k1.length) && cellsEq (XS.toList.drop (o + k1.length)) (YS.toList.drop (o + k1.length))) := by
            rw [← cellsEq_append _ _ _ _ (by rw [List.length_take, List.length_take, hlx, hly]), ← sx, ← sy]
          rw [efin, Op.eqFields]
          simp only [if_pos hn', Sem.run_bind, ha, hb, hab, Result.andThen_ok]
          cases hce : cellsEq ((XS.toList.drop o).take k1.length) ((YS.toList.drop o).take k1.length) with
          | false => simp
          | true => simpa using e
        · cases h
      · cases h
    · cases h

theorem eqKs_len {d : Nat} {t : TypeId} {ks : List TD} (h : eqKs P d t = some ks) (hs : isStruct P t = false) : ks.length = 1 := by
  cases d with
  | zero => cases h
  | succ d =>
    unfold eqKs at h
    unfold isStruct at hs
    split at h
    · cases h; rfl
    · cases h; rfl
    · cases h; rfl
    · rename_i fs hu; rw [hu] at hs; cases hs
    · cases h

theorem eqKs_run : ∀ (d : Nat) (t : TypeId) (ks : List TD), eqKs P d t = some ks → isStruct P t = true → ∀ (D : Nat), d ≤ D → ∀ (W : World) (xs ys : Array Value), xs.toList.map kindOf = ks.map some → ys.toList.map kindOf = ks.map some →
    (Op.equalIn D t (.agg xs) (.agg ys)).run P W = .ok (cellsEq xs.toList ys.toList) W := by
  intro d
  induction d with
  | zero => intro t ks h; cases h
  | succ d ih =>
    intro t ks h hs D hD W xs ys hx hy
    obtain ⟨D, rfl⟩ : ∃ D', D = D' + 1 := ⟨D - 1, by omega⟩
    have h0 := h
    unfold eqKs at h
    unfold isStruct at hs
    split at h
    · rename_i hu; rw [hu] at hs; cases hs
    · rename_i hu; rw [hu] at hs; cases hs
    · rename_i hu; rw [hu] at hs; cases hs
    · rename_i fs hu
      split at h
      · cases h
      · rename_i hst
        have hf : P.fieldsOf t = fs := by simp [Program.fieldsOf, hu]
        rw [run_equalIn_struct (P := P) W D t xs ys (by rw [hf]; exact hu) (by simpa using hst), hf]
        have := eqFs_run (P := P) (rec := eqKs P d) (D := D) (fun t' ks' h' => ⟨fun hs' W x y hx hy => by
            have hd : d ≠ 0 := fun e => by subst e; cases h'
            obtain ⟨D', rfl⟩ : ∃ D', D = D' + 1 := ⟨D - 1, by omega⟩
            exact eqKs_leaf h' hs' W hx hy D', fun hs' W xs ys hx hy => ih t' ks' h' hs' D (by omega) W xs ys hx hy⟩) (fun t' ks' h' hs' => eqKs_len h' hs') W xs ys fs.toList 0 ks h (by simpa using hx) (by simpa using hy)
        simpa using this
    · cases h

theorem eqKs_guard : ∀ (d : Nat) (t : TypeId) (ks : List TD), eqKs P d t = some ks → ∀ (D : Nat), d ≤ D → P.eqGuardType D t = false := by
  intro d
  induction d with
  | zero => intro t ks h; cases h
  | succ d ih =>
    intro t ks h D hD
    obtain ⟨D, rfl⟩ : ∃ D', D = D' + 1 := ⟨D - 1, by omega⟩
    unfold eqKs at h
    unfold Program.eqGuardType
    split at h
    · rename_i hu; rw [hu]
    · rename_i hu; rw [hu]
    · rename_i hu; rw [hu]
    · rename_i fs hu
      rw [hu]
      split at h
      · cases h
      · simp only
        have key : ∀ (l : List Field) (o : Nat) (ks : List TD), eqFs P (eqKs P d) l o = some ks → ∀ f ∈ l, P.eqGuardType D f.type = false := by
          intro l
          induction l with
          | nil => intro o ks _ f hf; simp at hf
          | cons g l ihl =>
            intro o ks h f hf
            unfold eqFs at h
            split at h
            · rename_i k1 hk1
              split at h
              · split at h
                · rename_i k2 hk2
                  rcases List.mem_cons.1 hf with rfl | hf
                  · exact ih _ _ hk1 D (by omega)
                  · exact ihl _ _ hk2 f hf
                · cases h
              · cases h
            · cases h
        have := key fs.toList 0 ks h
        rw [Array.any_eq_false']
        intro f hf
        simp [this f (by simpa using hf)]
    · cases h

theorem TOKat.make {t : TypeId} {i : TI} {d : TypeDesc} (h1 : (P.info? t).map (fun n => (n.size, n.bytes, n.zero)) = some (i.size, i.bytes, some i.zero)) (h2 : P.underlying t = some d) (h3 : i.d.fits d = true) (h4 : i.zero.cells.toList.all plain = true)
    (h5 : ∀ ks, i.eqk = some ks → eqKs P 8 t = some ks ∧ isStruct P t = true) (h6 : 8 ≤ P.depth) : TOKat P t i := by
  obtain ⟨n, hn, he⟩ := Option.map_eq_some_iff.1 h1
  simp only [Prod.mk.injEq] at he
  refine ⟨⟨n, hn, he.1, he.2.1, he.2.2⟩, h4, ⟨d, h2, h3⟩, fun ks hk => ⟨eqKs_guard 8 t ks (h5 ks hk).1 _ h6, fun W xs ys hx hy => ?_⟩⟩
  exact eqKs_run 8 t ks (h5 ks hk).1 (h5 ks hk).2 10000 (by omega) W xs ys hx hy
end
end Go.Fw
set_option linter.unusedSimpArgs false
set_option linter.unusedVariables false
namespace Go.Fw
open Go

/-- what follows a value that an operation may lack -/
def bnd' (x : Option Value) (k : Value → Prop) : Prop := match x with | some v => k v | none => False
def bndH (x : Option Heap) (k : Heap → Prop) : Prop := match x with | some H => k H | none => False
def bndVH (x : Option (Value × Heap)) (k : Value → Heap → Prop) : Prop := match x with | some (v, H) => k v H | none => False
def bndB (x : Value) (k : Bool → Prop) : Prop := match x with | .bool b => k b | _ => False
theorem bnd'_some {v : Value} {k : Value → Prop} : bnd' (some v) k = k v := rfl
theorem bndH_some {v : Heap} {k : Heap → Prop} : bndH (some v) k = k v := rfl
theorem bndVH_some {v : Value} {H : Heap} {k : Value → Heap → Prop} : bndVH (some (v, H)) k = k v H := rfl
theorem bndB_bool {b : Bool} {k : Bool → Prop} : bndB (.bool b) k = k b := rfl
/-- a guard: x is what it yields, w what is wanted -/
def bndG (x : Option Bool) (w : Bool) (A B : Prop) : Prop := if x = some w then A else B
theorem bndG_tt {A B : Prop} : bndG (some true) true A B = A := by simp [bndG]
theorem bndG_tf {A B : Prop} : bndG (some true) false A B = B := by simp [bndG]
theorem bndG_ft {A B : Prop} : bndG (some false) true A B = B := by simp [bndG]
theorem bndG_ff {A B : Prop} : bndG (some false) false A B = A := by simp [bndG]

section
variable {tt : TT} {S : ACall} {q : Bool} {ops : Array Oper} {K : Slots → Heap → Prop} {Q : APost} {s : Slots} {H : Heap}
variable {dst : Option Tmp} {ty : TypeId} {pos : String} {af : Array Edge} {l : List Oper}

def AxV (tt : TT) (S : ACall) (q : Bool) (ops : Array Oper) (K : Slots → Heap → Prop) (l : List Oper) (s : Slots) (d : Option Tmp) (H : Heap) (x : Option Value) : Prop := match x with | some v => AxL tt S q ops K l (s.put d v) H | none => False
def AxW (tt : TT) (S : ACall) (q : Bool) (ops : Array Oper) (K : Slots → Heap → Prop) (l : List Oper) (s : Slots) (d : Option Tmp) (x : Option (Value × Heap)) : Prop := match x with | some (v, H) => AxL tt S q ops K l (s.put d v) H | none => False
def AxH (tt : TT) (S : ACall) (q : Bool) (ops : Array Oper) (K : Slots → Heap → Prop) (l : List Oper) (s : Slots) (d : Option Tmp) (x : Option Heap) : Prop := match x with | some H => AxL tt S q ops K l (s.put d undef) H | none => False
def AxP (tt : TT) (S : ACall) (q : Bool) (ops : Array Oper) (K : Slots → Heap → Prop) (l : List Oper) (s : Slots) (d : Option Tmp) (H : Heap) (c x y : Value) : Prop := match c with | .bool t => AxL tt S q ops K l (s.put d (if t = true then x else y)) H | _ => False
def AxG (tt : TT) (S : ACall) (q : Bool) (ops : Array Oper) (K : Slots → Heap → Prop) (o : Oper) (l : List Oper) (s : Slots) (d : Option Tmp) (H : Heap) (x : Option Bool) (w : Bool) : Prop := if x = some w then AxL tt S q ops K (o :: l) s H else AxL tt S q ops K l (s.put d undef) H
theorem axV_some {d : Option Tmp} {v : Value} : AxV tt S q ops K l s d H (some v) = AxL tt S q ops K l (s.put d v) H := rfl
theorem axW_some {d : Option Tmp} {v : Value} : AxW tt S q ops K l s d (some (v, H)) = AxL tt S q ops K l (s.put d v) H := rfl
theorem axH_some {d : Option Tmp} : AxH tt S q ops K l s d (some H) = AxL tt S q ops K l (s.put d undef) H := rfl
theorem axP_bool {d : Option Tmp} {b : Bool} {x y : Value} : AxP tt S q ops K l s d H (.bool b) x y = AxL tt S q ops K l (s.put d (if b = true then x else y)) H := rfl
theorem axG_tt {d : Option Tmp} {o : Oper} : AxG tt S q ops K o l s d H (some true) true = AxL tt S q ops K (o :: l) s H := by simp [AxG]
theorem axG_tf {d : Option Tmp} {o : Oper} : AxG tt S q ops K o l s d H (some true) false = AxL tt S q ops K l (s.put d undef) H := by simp [AxG]
theorem axG_ft {d : Option Tmp} {o : Oper} : AxG tt S q ops K o l s d H (some false) true = AxL tt S q ops K l (s.put d undef) H := by simp [AxG]
theorem axG_n {d : Option Tmp} {o : Oper} {w : Bool} : AxG tt S q ops K o l s d H none w = AxL tt S q ops K l (s.put d undef) H := by simp [AxG]
theorem undef_eq : (undef : Value) = .tuple #[] := rfl
theorem axG_ff {d : Option Tmp} {o : Oper} : AxG tt S q ops K o l s d H (some false) false = AxL tt S q ops K (o :: l) s H := by simp [AxG]
theorem opThen_map {op : Op} {x : Option Value} (h : aop tt op (ev s) H = x.map (fun v => (v, H))) : opThen tt op s H (fun v H' => AxL tt S q ops K l (s.put dst v) H') = AxV tt S q ops K l s dst H x := by
  unfold opThen AxV; rw [h]; cases x <;> rfl

theorem wl_nil : AxL tt S q ops K [] s H = K s H := rfl
theorem wl_move {x : Operand} : AxL tt S q ops K (⟨dst, .move x, ty, pos, af, none⟩ :: l) s H = AxL tt S q ops K l (s.put dst (ev s x)) H := AxL_op (by simp [clsOf])
theorem wl_assign {x : Operand} : AxL tt S q ops K (⟨dst, .assign x, ty, pos, af, none⟩ :: l) s H = AxL tt S q ops K l (s.put dst (ev s x)) H := AxL_op (by simp [clsOf])
theorem wl_pick {c x y : Operand} : AxL tt S q ops K (⟨dst, .pick c x y, ty, pos, af, none⟩ :: l) s H = AxP tt S q ops K l s dst H (ev s c) (ev s x) (ev s y) := by
  rw [AxL_op (by simp [clsOf])]
  have e : aop tt (.pick c x y) (ev s) H = (match ev s c with | .bool t => some (if t then ev s x else ev s y, H) | _ => none) := rfl
  unfold opThen
  rw [e]; unfold AxP
  generalize ev s c = z
  cases z <;> rfl
theorem wl_alloc {t : TypeId} : AxL tt S q ops K (⟨dst, .alloc t, ty, pos, af, none⟩ :: l) s H = AxW tt S q ops K l s dst (match tt t with | some T => some (newPtr H, H ++ [mkBlk tt t T.zero.cells.toList]) | none => none) := by
  rw [AxL_op (by simp [clsOf])]
  have e : aop tt (.alloc t) (ev s) H = (match tt t with | some T => some (newPtr H, H ++ [mkBlk tt t T.zero.cells.toList]) | none => none) := rfl
  unfold opThen
  rw [e]; cases tt t <;> rfl
theorem wl_box {t : TypeId} {x : Operand} : AxL tt S q ops K (⟨dst, .box t x, ty, pos, af, none⟩ :: l) s H = AxL tt S q ops K l (s.put dst (newPtr H)) (H ++ [mkBlk tt t (ev s x).cells.toList]) := AxL_op (by simp [clsOf])
theorem wl_build {t : TypeId} {ps : Array (Nat × Operand)} : AxL tt S q ops K (⟨dst, .build t ps, ty, pos, af, none⟩ :: l) s H = AxV tt S q ops K l s dst H (aBuild tt t (parts' (ev s) ps)) := by
  rw [AxL_op (by simp [clsOf])]; exact opThen_map rfl
theorem wl_buildSlice {t : TypeId} {n : Nat} {ps : Array (Nat × Operand)} : AxL tt S q ops K (⟨dst, .buildSlice t n ps, ty, pos, af, none⟩ :: l) s H = AxW tt S q ops K l s dst (aBuildSlice tt H t n (parts' (ev s) ps)) := by
  rw [AxL_op (by simp [clsOf])]; unfold opThen AxW; rfl
theorem wl_load {t : TypeId} {x : Operand} : AxL tt S q ops K (⟨dst, .load t x, ty, pos, af, none⟩ :: l) s H = AxV tt S q ops K l s dst H (aLoad tt H t (ev s x)) := by
  rw [AxL_op (by simp [clsOf])]; exact opThen_map rfl
theorem wl_store {t : TypeId} {x y : Operand} : AxL tt S q ops K (⟨dst, .store t x y, ty, pos, af, none⟩ :: l) s H = AxH tt S q ops K l s dst (aStore tt H t (ev s x) (ev s y)) := by
  rw [AxL_op (by simp [clsOf])]
  have e : aop tt (.store t x y) (ev s) H = (aStore tt H t (ev s x) (ev s y)).map (fun H' => (undef, H')) := rfl
  unfold opThen
  rw [e]; unfold AxH; cases aStore tt H t (ev s x) (ev s y) <;> rfl
theorem wl_nilCheck {x : Operand} : AxL tt S q ops K (⟨dst, .nilCheck x, ty, pos, af, none⟩ :: l) s H = AxW tt S q ops K l s dst (match ev s x with | .pointer (some a) => some (.pointer (some a), H) | .func (.func f) x y => some (.func (.func f) x y, H) | _ => none) := by
  rw [AxL_op (by simp [clsOf])]; rfl
theorem wl_binOp {op : BinOp} {t u : TypeId} {x y : Operand} : AxL tt S q ops K (⟨dst, .binOp op t x y u, ty, pos, af, none⟩ :: l) s H = AxV tt S q ops K l s dst H (aBin tt op t (ev s x) (ev s y)) := by
  rw [AxL_op (by simp [clsOf])]; exact opThen_map rfl
theorem wl_unOp {op : UnOp} {t : TypeId} {x : Operand} : AxL tt S q ops K (⟨dst, .unOp op t x, ty, pos, af, none⟩ :: l) s H = AxV tt S q ops K l s dst H (aUn op (ev s x)) := by
  rw [AxL_op (by simp [clsOf])]; exact opThen_map rfl
theorem wl_convert {a b : TypeId} {x : Operand} : AxL tt S q ops K (⟨dst, .convert a b x, ty, pos, af, none⟩ :: l) s H = AxV tt S q ops K l s dst H (aConv tt H a b (ev s x)) := by
  rw [AxL_op (by simp [clsOf])]; exact opThen_map rfl
theorem wl_makeFunc {f : FuncId} {x y : Array Operand} : AxL tt S q ops K (⟨dst, .makeFunc (.func f) x y, ty, pos, af, none⟩ :: l) s H = AxL tt S q ops K l (s.put dst (.func (.func f) (x.map (ev s)) (y.map (ev s)))) H := AxL_op (by simp [clsOf])
theorem wl_makeSlice {t : TypeId} {x y : Operand} : AxL tt S q ops K (⟨dst, .makeSlice t x y, ty, pos, af, none⟩ :: l) s H = AxW tt S q ops K l s dst (aMakeSlice tt H t (ev s x) (ev s y)) := by
  rw [AxL_op (by simp [clsOf])]; rfl
theorem wl_slice {t : TypeId} {x : Operand} {a b c : Option Operand} : AxL tt S q ops K (⟨dst, .slice t x a b c, ty, pos, af, none⟩ :: l) s H = AxV tt S q ops K l s dst H (aSlice tt H t (ev s x) (a.map (ev s)) (b.map (ev s)) (c.map (ev s))) := by
  rw [AxL_op (by simp [clsOf])]; exact opThen_map rfl
theorem wl_fieldAddr {t : TypeId} {x : Operand} {f : Nat} : AxL tt S q ops K (⟨dst, .fieldAddr t x f, ty, pos, af, none⟩ :: l) s H = AxV tt S q ops K l s dst H (aFieldAddr tt t (ev s x) f) := by
  rw [AxL_op (by simp [clsOf])]; exact opThen_map rfl
theorem wl_field {t : TypeId} {x : Operand} {f : Nat} : AxL tt S q ops K (⟨dst, .field t x f, ty, pos, af, none⟩ :: l) s H = AxV tt S q ops K l s dst H (aField tt t (ev s x) f) := by
  rw [AxL_op (by simp [clsOf])]; exact opThen_map rfl
theorem wl_indexAddr {t : TypeId} {x y : Operand} : AxL tt S q ops K (⟨dst, .indexAddr t x y, ty, pos, af, none⟩ :: l) s H = AxV tt S q ops K l s dst H (aIndexAddr tt t (ev s x) (ev s y)) := by
  rw [AxL_op (by simp [clsOf])]; exact opThen_map rfl
theorem wl_index {t : TypeId} {x y : Operand} : AxL tt S q ops K (⟨dst, .index t x y, ty, pos, af, none⟩ :: l) s H = AxV tt S q ops K l s dst H (aIndex tt t (ev s x) (ev s y)) := by
  rw [AxL_op (by simp [clsOf])]; exact opThen_map rfl
def exT (x : Value) (i : Nat) : Option Value := match x with | .tuple vs => vs[i]? | _ => none
theorem wl_extract {x : Operand} {i : Nat} : AxL tt S q ops K (⟨dst, .extract x i, ty, pos, af, none⟩ :: l) s H = AxV tt S q ops K l s dst H (exT (ev s x) i) := by
  rw [AxL_op (by simp [clsOf])]
  refine opThen_map ?_
  have e : aop tt (.extract x i) (ev s) H = (match ev s x with | .tuple vs => (vs[i]?).map (fun v => (v, H)) | _ => none) := rfl
  rw [e]; unfold exT
  generalize ev s x = z
  cases z <;> rfl
theorem wl_len {x : Operand} {tys : Array TypeId} : AxL tt S q ops K (⟨dst, .call { callee := .builtin .len, args := #[x], argTypes := tys }, ty, pos, af, none⟩ :: l) s H = AxV tt S q ops K l s dst H (aLen tt tys.toList (ev s x)) := by
  rw [AxL_op (by simp [clsOf])]; exact opThen_map rfl
theorem wl_builtin {b : Builtin} {as : Array Operand} {tys : Array TypeId} : AxL tt S q ops K (⟨dst, .call { callee := .builtin b, args := as, argTypes := tys }, ty, pos, af, none⟩ :: l) s H = AxW tt S q ops K l s dst (aBuiltin tt H b tys.toList (as.toList.map (ev s))) := by
  rw [AxL_op (by cases b <;> simp [clsOf])]; rfl
/-- a guard -/
theorem wl_guard {op : Op} {g : Nat} {w : Bool} : AxL tt S q ops K (⟨dst, op, ty, pos, af, some (g, w)⟩ :: l) s H = AxG tt S q ops K ⟨dst, op, ty, pos, af, none⟩ l s dst H (yieldA ops s g) w := by
  unfold AxG
  have hw : wantedA ops s ⟨dst, op, ty, pos, af, some (g, w)⟩ = true ↔ yieldA ops s g = some w := by simp [wantedA, Region.wanted]
  have hn : wantedA ops s ⟨dst, op, ty, pos, af, none⟩ = true := rfl
  simp only [AxL, AOp, hw, hn]
  by_cases h : yieldA ops s g = some w
  · simp only [h, if_true]; rfl
  · simp only [h, if_false]
    apply propext
    constructor
    · rintro ⟨s', H', ⟨rfl, rfl⟩, k⟩; exact k
    · intro k; exact ⟨_, _, ⟨rfl, rfl⟩, k⟩
end
end Go.Fw
set_option linter.unusedSimpArgs false
set_option linter.unusedVariables false
namespace Go.Fw
open Go

section
variable {b : Bool} {k : IntKind} {n c : Nat} {z : Int} {t : ByteArray} {a : Option Addr} {cs x y : Array Value} {f : Fn}
theorem cells_bool : (Value.bool b).cells = #[.bool b] := rfl
theorem cells_int : (Value.int k z).cells = #[.int k z] := rfl
theorem cells_string : (Value.string t).cells = #[.string t] := rfl
theorem cells_pointer : (Value.pointer a).cells = #[.pointer a] := rfl
theorem cells_slice : (Value.slice a n c).cells = #[.slice a n c] := rfl
theorem cells_func : (Value.func f x y).cells = #[.func f x y] := rfl
theorem cells_agg : (Value.agg cs).cells = cs := rfl
theorem cell_bool : isCell (Value.bool b) = true := rfl
theorem cell_int : isCell (Value.int k z) = true := rfl
theorem cell_string : isCell (Value.string t) = true := rfl
theorem cell_pointer : isCell (Value.pointer a) = true := rfl
theorem cell_slice : isCell (Value.slice a n c) = true := rfl
theorem cell_func : isCell (Value.func f x y) = true := rfl
theorem exT_tuple {vs : Array Value} {i : Nat} : exT (.tuple vs) i = vs[i]? := rfl
end

def ptr (b i : Nat) : Value := .pointer (some ⟨b, i, none⟩)
theorem newPtr_at (H L : Heap) : newPtr (H ++ L) = .pointer (some ⟨H.length + L.length, 0, none⟩) := by simp [newPtr]
theorem newPtr_0 (H : Heap) : newPtr H = .pointer (some ⟨H.length + 0, 0, none⟩) := rfl

theorem rd_app (H L : Heap) (j i n : Nat) : rd (H ++ L) (H.length + j) i n = rd L j i n := by simp only [rd, hp_get]
theorem wr_app (H L : Heap) (j i : Nat) (vs : List Value) : wr (H ++ L) (H.length + j) i vs = (wr L j i vs).map (H ++ ·) := by
  simp only [wr, hp_get]
  cases L[j]? with
  | none => rfl
  | some B => simp only; split <;> simp [hp_set]

theorem rd_app0 (H L : Heap) (i n : Nat) : rd (H ++ L) H.length i n = rd L 0 i n := rd_app H L 0 i n
theorem wr_app0 (H L : Heap) (i : Nat) (vs : List Value) : wr (H ++ L) H.length i vs = (wr L 0 i vs).map (H ++ ·) := wr_app H L 0 i vs
def allC : List Value → Bool | [] => true | v :: l => isCell v && allC l
theorem allC_nil : allC [] = true := rfl
theorem allC_cons (v : Value) (l : List Value) : allC (v :: l) = (isCell v && allC l) := rfl
theorem allC_eq (l : List Value) : l.all isCell = allC l := by induction l with | nil => rfl | cons v l ih => simp only [List.all_cons, allC, ih]
theorem wr_eq (H : Heap) (b i : Nat) (vs : List Value) : wr H b i vs = match H[b]? with
  | some B => if B.own = true ∧ i + vs.length ≤ B.cells.length ∧ allC vs = true then some (H.set b ⟨splice B.cells i vs, B.esz, B.own⟩) else none
  | none => none := by unfold wr; simp only [allC_eq]; cases H[b]? <;> rfl

theorem rd_zero (c : Value) (cs : List Value) (e : Nat) (o : Bool) (L : Heap) (i n : Nat) : rd (⟨c :: cs, e, o⟩ :: L) 0 i n = if 0 < e ∧ i + n ≤ cs.length + 1 then some (((c :: cs).drop i).take n) else none := rfl
theorem rd_succ (B : Blk) (L : Heap) (j i n : Nat) : rd (B :: L) (j + 1) i n = rd L j i n := by simp only [rd, List.getElem?_cons_succ]
theorem wr_zero (c : Value) (cs : List Value) (e : Nat) (o : Bool) (L : Heap) (i : Nat) (vs : List Value) : wr (⟨c :: cs, e, o⟩ :: L) 0 i vs = if o = true ∧ i + vs.length ≤ cs.length + 1 ∧ allC vs = true then some (⟨splice (c :: cs) i vs, e, o⟩ :: L) else none := by
  rw [wr_eq]; rfl
theorem wr_succ (B : Blk) (L : Heap) (j i : Nat) (vs : List Value) : wr (B :: L) (j + 1) i vs = (wr L j i vs).map (B :: ·) := by
  simp only [wr, List.getElem?_cons_succ]
  cases L[j]? with
  | none => rfl
  | some B => simp only; split <;> simp

theorem ini_0 (a : Value) (l : List Value) : ini ⟨a :: l⟩ 0 = a := by simp [ini]
theorem ini_s (a : Value) (l : List Value) (n : Nat) : ini ⟨a :: l⟩ (n + 1) = ini ⟨l⟩ n := by simp [ini]

section
variable {tt : TT} {S : ACall} {q : Bool} {ops : Array Oper} {K : Slots → Heap → Prop} {s : Slots} {H : Heap}
variable {dst : Option Tmp} {ty : TypeId} {pos : String} {af : Array Edge} {l : List Oper}

theorem wl_append {x y : Operand} {tys : Array TypeId} : AxL tt S q ops K (⟨dst, .call { callee := .builtin .append, args := #[x, y], argTypes := tys }, ty, pos, af, none⟩ :: l) s H = AxW tt S q ops K l s dst (aAppend tt H tys.toList (ev s x) (ev s y)) := wl_builtin
theorem wl_max {x y : Operand} {tys : Array TypeId} : AxL tt S q ops K (⟨dst, .call { callee := .builtin .max, args := #[x, y], argTypes := tys }, ty, pos, af, none⟩ :: l) s H = AxW tt S q ops K l s dst (aBuiltin tt H .max tys.toList [ev s x, ev s y]) := wl_builtin
/-- a call whose contract is known -/
theorem wl_call {f : Operand} {args : Array Operand} {tys : Array TypeId} {g : FuncId} {first cap : Array Value} {v : Value} {H' : Heap} (hf : ev s f = .func (.func g) first cap) (hS : S (.func g) (first ++ args.map (ev s) ++ cap) H v H') (hq : q = true → ∃ G, H' = H ++ G)
    (k : AxL tt S q ops K l (s.put dst v) H') : AxL tt S q ops K (⟨dst, .call { callee := .value f, args := args, argTypes := tys }, ty, pos, af, none⟩ :: l) s H :=
  axl_call rfl rfl hf hS hq k
/-- the callee is a named function -/
theorem wl_callF {args : Array Operand} {tys : Array TypeId} {g : FuncId} {v : Value} {H' : Heap} (as : Array Value) (ha : args.map (ev s) = as) (hS : S (.func g) as H v H') (hq : q = true → ∃ G, H' = H ++ G)
    (k : AxL tt S q ops K l (s.put dst v) H') : AxL tt S q ops K (⟨dst, .call { callee := .value (.func g), args := args, argTypes := tys }, ty, pos, af, none⟩ :: l) s H :=
  wl_call (first := #[]) (cap := #[]) rfl (by rw [ha]; simpa using hS) hq k
end
end Go.Fw
set_option linter.unusedSimpArgs false
set_option linter.unusedVariables false
namespace Go.Fw
open Go

theorem axI_to_axL {tt : TT} {S : ACall} {q : Bool} {ops : Array Oper} {K : Slots → Heap → Prop} : ∀ (n k : Nat) (s : Slots) (H : Heap), k + n = ops.size → AxI tt S q ops K (List.range' k n) s H → AxL tt S q ops K (ops.toList.drop k) s H := by
  intro n
  induction n with
  | zero =>
    intro k s H hk h
    rw [List.drop_of_length_le (by simp; omega)]
    exact h
  | succ n ih =>
    intro k s H hk h
    have hlt : k < ops.size := by omega
    rw [List.drop_eq_getElem_cons (by simpa using hlt)]
    rw [List.range'_succ] at h
    unfold AxI at h
    rw [Array.getElem?_eq_getElem hlt] at h
    obtain ⟨s', H', h1, h2⟩ := h
    exact ⟨s', H', by simpa using h1, ih (k + 1) s' H' (by omega) h2⟩

section
variable {tt : TT} {S : ACall} {Q : APost} {s : Slots} {H : Heap}
theorem wa_region {id : Nat} {ops : Array Oper} : Ax tt S (.region id ops false) Q s H = AxL tt S false ops (Q .normal) ops.toList s H := by
  show AxReg tt S ops false (Q .normal) s H = _
  unfold AxReg
  simp only [Bool.false_eq_true, if_false]
  apply propext
  constructor
  · intro h
    rw [List.range_eq_range'] at h
    simpa using axI_to_axL ops.size 0 s H (by omega) h
  · exact axI_list
theorem wa_seq {a b : Code} : Ax tt S (.seq a b) Q s H = Ax tt S a (AEx.thn (Ax tt S b Q) Q) s H := rfl
theorem wa_skip : Ax tt S .skip Q s H = Q .normal s H := rfl
theorem wa_block {id : Nat} {b : Code} : Ax tt S (.block id b) Q s H = Ax tt S b (AEx.inBlock id Q) s H := rfl
theorem wa_exit {id : Nat} : Ax tt S (.exit id) Q s H = Q (.exit id) s H := rfl
theorem wa_ret : Ax tt S .ret Q s H = Q .ret s H := rfl
theorem ax_cond2 {c : Operand} {x y : Code} (h : bndB (ev s c) (fun b => (b = true → Ax tt S x Q s H) ∧ (b = false → Ax tt S y Q s H))) : Ax tt S (.cond c x y) Q s H := by
  unfold bndB at h
  split at h
  · rename_i b hb
    refine ⟨b, hb, ?_⟩
    cases b with
    | true => exact h.1 rfl
    | false => exact h.2 rfl
  · exact h.elim
theorem ax_loopx {α : Type} {b : Code} (I : α → Slots → Heap → Prop) (μ : α → Nat) (a0 : α) (h0 : I a0 s H)
    (round : ∀ a s H, I a s H → Ax tt S b (AEx.thn (fun s' H' => ∃ a', I a' s' H' ∧ μ a' < μ a) Q) s H) : Ax tt S (.loop b) Q s H := by
  have key : ∀ n a s H, μ a < n → I a s H → AxLoop (Ax tt S b) Q n s H := by
    intro n
    induction n with
    | zero => intro a s H hm; omega
    | succ n ih =>
      intro a s H hm hI
      refine Ax_mono b (round a s H hI) ?_
      intro e s' H' h
      cases e with
      | normal => obtain ⟨a', h1, h2⟩ := h; exact ih a' s' H' (by omega) h1
      | exit id => exact h
      | ret => exact h
  exact ⟨μ a0 + 1, key _ a0 s H (Nat.lt_succ_self _) h0⟩

/-- what lies between two parts -/
theorem ax_mid (M : Slots → Heap → Prop) {a : Code} {K : Slots → Heap → Prop} (h1 : Ax tt S a (AEx.thn M Q) s H) (h2 : ∀ s H, M s H → K s H) : Ax tt S a (AEx.thn K Q) s H := by
  refine Ax_mono a h1 ?_
  intro e s H h
  cases e with
  | normal => exact h2 s H h
  | exit id => exact h
  | ret => exact h
theorem ret_tmp {fn : Func} {R : List Value → Heap → Prop} {t : Tmp} {vs : List Value} (h1 : resL tt s H fn.results.toList = some vs) (h2 : R vs H) : retP tt fn R .ret s H := ⟨vs, h1, h2⟩
end

def andI (k : IntKind) (x y : Int) : Int := k.wrap (BitVec.ofInt k.bits x &&& BitVec.ofInt k.bits y).toNat
def orI (k : IntKind) (x y : Int) : Int := k.wrap (BitVec.ofInt k.bits x ||| BitVec.ofInt k.bits y).toNat
def xorI (k : IntKind) (x y : Int) : Int := k.wrap (BitVec.ofInt k.bits x ^^^ BitVec.ofInt k.bits y).toNat
section
variable {tt : TT} {t : TypeId} {k k' : IntKind} {x y : Int} {a b : ByteArray} {p q : Bool}
theorem bin_add : aBin tt .add t (.int k x) (.int k y) = some (.int k (k.wrap (x + y))) := by simp [aBin, aInt]
theorem bin_sub : aBin tt .sub t (.int k x) (.int k y) = some (.int k (k.wrap (x - y))) := by simp [aBin, aInt]
theorem bin_mul : aBin tt .mul t (.int k x) (.int k y) = some (.int k (k.wrap (x * y))) := by simp [aBin, aInt]
theorem bin_quo : aBin tt .quo t (.int k x) (.int k y) = if y = 0 then none else some (.int k (k.wrap (x.tdiv y))) := by simp [aBin, aInt]
theorem bin_rem : aBin tt .rem t (.int k x) (.int k y) = if y = 0 then none else some (.int k (x.tmod y)) := by simp [aBin, aInt]
theorem bin_shl : aBin tt .shl t (.int k x) (.int k' y) = if y < 0 then none else some (.int k (k.wrap (x * 2 ^ (min y.toNat k.bits)))) := by simp [aBin, aInt, isShift]
theorem bin_shr : aBin tt .shr t (.int k x) (.int k' y) = if y < 0 then none else some (.int k (x.fdiv (2 ^ (min y.toNat k.bits)))) := by simp [aBin, aInt, isShift]
theorem bin_and : aBin tt .and t (.int k x) (.int k y) = some (.int k (andI k x y)) := by simp [aBin, aInt, aBits, andI]
theorem bin_or : aBin tt .or t (.int k x) (.int k y) = some (.int k (orI k x y)) := by simp [aBin, aInt, aBits, orI]
theorem bin_xor : aBin tt .xor t (.int k x) (.int k y) = some (.int k (xorI k x y)) := by simp [aBin, aInt, aBits, xorI]
theorem bin_eql : aBin tt .eql t (.int k x) (.int k y) = some (.bool (decide (x = y))) := by simp [aBin, aInt, aCmp]; rfl
theorem bin_neq : aBin tt .neq t (.int k x) (.int k y) = some (.bool (decide (x ≠ y))) := by simp [aBin, aInt, aCmp]; rfl
theorem bin_lss : aBin tt .lss t (.int k x) (.int k y) = some (.bool (decide (x < y))) := by simp [aBin, aInt, aCmp]
theorem bin_leq : aBin tt .leq t (.int k x) (.int k y) = some (.bool (decide (x ≤ y))) := by simp [aBin, aInt, aCmp]
theorem bin_gtr : aBin tt .gtr t (.int k x) (.int k y) = some (.bool (decide (y < x))) := by simp [aBin, aInt, aCmp]
theorem bin_geq : aBin tt .geq t (.int k x) (.int k y) = some (.bool (decide (y ≤ x))) := by simp [aBin, aInt, aCmp]
theorem beq_ba (a b : ByteArray) : (a.toList == b.toList) = decide (a = b) := by
  have e : a.toList = b.toList ↔ a = b := by
    constructor
    · intro h
      have h2 : ∀ x : ByteArray, x.toList = x.data.toList := fun x => Go.ByteArray.toList_eq x
      rw [h2, h2] at h
      cases a; cases b; simp at h; exact congrArg _ h
    · rintro rfl; rfl
  by_cases h : a = b <;> simp [h, e]
theorem bin_seql : aBin tt .eql t (.string a) (.string b) = some (.bool (decide (a = b))) := by simp only [aBin, aStr, beq_ba]
theorem bin_sneq : aBin tt .neq t (.string a) (.string b) = some (.bool (decide (a ≠ b))) := by simp only [aBin, aStr, beq_ba]; simp
theorem un_not : aUn .not (.bool p) = some (.bool !p) := rfl
theorem un_neg : aUn .neg (.int k x) = some (.int k (k.wrap (0 - x))) := rfl
end
/-- `wrap` away -/
theorem w64 {n : Int} (h1 : -9223372036854775808 ≤ n) (h2 : n ≤ 9223372036854775807) : IntKind.i64.wrap n = n := IntWalk.i64_in n ⟨h1, h2⟩
theorem wu64 {n : Int} (h1 : 0 ≤ n) (h2 : n ≤ 18446744073709551615) : IntKind.u64.wrap n = n := IntWalk.u64_in n ⟨h1, h2⟩
theorem wu32 {n : Int} (h1 : 0 ≤ n) (h2 : n ≤ 4294967295) : IntKind.u32.wrap n = n := IntWalk.u32_in n ⟨h1, h2⟩
theorem wu8 {n : Int} (h1 : 0 ≤ n) (h2 : n ≤ 255) : IntKind.u8.wrap n = n := IntWalk.u8_in n ⟨h1, h2⟩

def bndL (x : Option (List Value)) (k : List Value → Prop) : Prop := match x with | some v => k v | none => False
theorem bndL_some {v : List Value} {k : List Value → Prop} : bndL (some v) k = k v := rfl
theorem ret_eq {tt : TT} {fn : Func} {R : List Value → Heap → Prop} {s : Slots} {H : Heap} : retP tt fn R .ret s H = bndL (resL tt s H fn.results.toList) (fun vs => R vs H) := by
  unfold retP bndL
  apply propext
  cases resL tt s H fn.results.toList <;> simp

theorem resV_one {v : Value} : resV [v] = v := rfl
theorem resV_two {v w : Value} : resV [v, w] = .tuple #[v, w] := rfl
theorem resV_three {v w x : Value} : resV [v, w, x] = .tuple #[v, w, x] := rfl
theorem cast0 : ((0 : Nat) : Int) = 0 := rfl
theorem cast1 : ((1 : Nat) : Int) = 1 := rfl
theorem castS {n : Nat} : ((n + 1 : Nat) : Int) - 1 = (n : Nat) := by omega
theorem castP {n m : Nat} : ((n + m : Nat) : Int) = (n : Int) + (m : Int) := by omega

theorem bits_u8 : IntKind.u8.bits = 8 := rfl
theorem bits_u32 : IntKind.u32.bits = 32 := rfl
theorem bits_u64 : IntKind.u64.bits = 64 := rfl
theorem bits_i64 : IntKind.i64.bits = 64 := rfl
theorem tdiv_nat (a b : Nat) : ((a : Int)).tdiv (b : Int) = ((a / b : Nat) : Int) := rfl
theorem tmod_nat (a b : Nat) : ((a : Int)).tmod (b : Int) = ((a % b : Nat) : Int) := rfl
theorem ofInt_nat {w n : Nat} (h : n < 2 ^ w) : (BitVec.ofInt w (n : Int)).toNat = n := by
  rw [BitVec.ofInt_natCast, BitVec.toNat_ofNat, Nat.mod_eq_of_lt h]
theorem or_nat {w a b : Nat} (ha : a < 2 ^ w) (hb : b < 2 ^ w) : (BitVec.ofInt w (a : Int) ||| BitVec.ofInt w (b : Int)).toNat = a ||| b := by
  rw [BitVec.toNat_or, ofInt_nat ha, ofInt_nat hb]
theorem or_add {a c k : Nat} (ha : a < 2 ^ k) : a ||| (c * 2 ^ k) = a + c * 2 ^ k := by
  have := Nat.shiftLeft_add_eq_or_of_lt ha c
  rw [Nat.shiftLeft_eq] at this
  rw [Nat.or_comm, ← this, Nat.add_comm]

theorem or_u32 {a b : Nat} (ha : a < 2 ^ 32) (hb : b < 2 ^ 32) : orI .u32 (a : Int) (b : Int) = ((a ||| b : Nat) : Int) := by
  unfold orI
  rw [show IntKind.u32.bits = 32 from rfl, or_nat ha hb]
  have := Nat.or_lt_two_pow ha hb
  exact wu32 (by omega) (by omega)
theorem or_u64 {a b : Nat} (ha : a < 2 ^ 64) (hb : b < 2 ^ 64) : orI .u64 (a : Int) (b : Int) = ((a ||| b : Nat) : Int) := by
  unfold orI
  rw [show IntKind.u64.bits = 64 from rfl, or_nat ha hb]
  have := Nat.or_lt_two_pow ha hb
  exact wu64 (by omega) (by omega)
theorem or_i64 {a b : Nat} (ha : a < 2 ^ 63) (hb : b < 2 ^ 63) : orI .i64 (a : Int) (b : Int) = ((a ||| b : Nat) : Int) := by
  unfold orI
  rw [show IntKind.i64.bits = 64 from rfl, or_nat (by omega) (by omega)]
  have := Nat.or_lt_two_pow ha hb
  exact w64 (by omega) (by omega)

theorem low_u8 (x : Nat) : IntKind.u8.wrap (x : Int) = ((UInt8.ofNat x).toNat : Int) := by
  rw [IntKind.wrap_u8]; simp
theorem min_lit24 : min 24 32 = 24 := rfl
theorem min_lit16 : min 16 32 = 16 := rfl
theorem min_lit8 : min 8 32 = 8 := rfl
theorem fdiv_pow (x : Nat) (k : Nat) : ((x : Int)).fdiv (2 ^ k) = ((x / 2 ^ k : Nat) : Int) := by
  rw [Int.fdiv_eq_ediv_of_nonneg _ (Int.pow_nonneg (by decide))]
  norm_cast
theorem min_lit32 : min 32 64 = 32 := rfl
theorem low_u32 (x : Nat) : IntKind.u32.wrap (x : Int) = ((x % 4294967296 : Nat) : Int) := by
  rw [IntKind.wrap_u32]; simp
theorem addc (a b : Nat) : (a : Int) + (b : Int) = ((a + b : Nat) : Int) := by omega
theorem mulc (a b : Nat) : (a : Int) * (b : Int) = ((a * b : Nat) : Int) := by simp
theorem wu64n {n : Nat} (h : n < 18446744073709551616) : IntKind.u64.wrap (n : Int) = (n : Int) := wu64 (by omega) (by omega)
theorem wu32n {n : Nat} (h : n < 4294967296) : IntKind.u32.wrap (n : Int) = (n : Int) := wu32 (by omega) (by omega)
theorem w64n {n : Nat} (h : n < 9223372036854775808) : IntKind.i64.wrap (n : Int) = (n : Int) := w64 (by omega) (by omega)

theorem and_nat {w a b : Nat} (ha : a < 2 ^ w) (hb : b < 2 ^ w) : (BitVec.ofInt w (a : Int) &&& BitVec.ofInt w (b : Int)).toNat = a &&& b := by
  rw [BitVec.toNat_and, ofInt_nat ha, ofInt_nat hb]
theorem xor_nat {w a b : Nat} (ha : a < 2 ^ w) (hb : b < 2 ^ w) : (BitVec.ofInt w (a : Int) ^^^ BitVec.ofInt w (b : Int)).toNat = a ^^^ b := by
  rw [BitVec.toNat_xor, ofInt_nat ha, ofInt_nat hb]
theorem and_u32 {a b : Nat} (ha : a < 2 ^ 32) (hb : b < 2 ^ 32) : andI .u32 (a : Int) (b : Int) = ((a &&& b : Nat) : Int) := by
  unfold andI
  rw [show IntKind.u32.bits = 32 from rfl, and_nat ha hb]
  have := Nat.and_lt_two_pow a hb
  exact wu32 (by omega) (by omega)
theorem xor_u32 {a b : Nat} (ha : a < 2 ^ 32) (hb : b < 2 ^ 32) : xorI .u32 (a : Int) (b : Int) = ((a ^^^ b : Nat) : Int) := by
  unfold xorI
  rw [show IntKind.u32.bits = 32 from rfl, xor_nat ha hb]
  have := Nat.xor_lt_two_pow ha hb
  exact wu32 (by omega) (by omega)
theorem un_xor_u32 {x : Int} : aUn .xor (.int .u32 x) = some (.int .u32 (xorI .u32 ((4294967295 : Nat) : Int) x)) := by
  have e : (if IntKind.u32.signed = true then (-1 : Int) else IntKind.u32.max) = ((4294967295 : Nat) : Int) := by decide
  unfold aUn aBits xorI
  simp only [e]
/-- Go's borrow -/
theorem borrow_bit {x y b d : Nat} (hx : x < 2 ^ 32) (hy : y < 2 ^ 32) (hb : b ≤ 1) (hd : d = (x + 4294967296 - y + 4294967296 - b) % 4294967296) :
    ((((4294967295 ^^^ x) &&& y) ||| ((4294967295 ^^^ (x ^^^ y)) &&& d)) / 2 ^ 31) = if x < y + b then 1 else 0 := by
  have hdlt : d < 2 ^ 32 := by omega
  generalize hr : (((4294967295 ^^^ x) &&& y) ||| ((4294967295 ^^^ (x ^^^ y)) &&& d)) = r
  have hrlt : r < 2 ^ 32 := by
    rw [← hr]
    exact Nat.or_lt_two_pow (Nat.and_lt_two_pow _ hy) (Nat.and_lt_two_pow _ hdlt)
  have top : ∀ {z : Nat}, z < 2 ^ 32 → (z.testBit 31).toNat = z / 2 ^ 31 := by
    intro z hz
    rw [Nat.toNat_testBit]; omega
  have h1 : (4294967295 : Nat).testBit 31 = true := by decide
  have e : r.testBit 31 = ((!x.testBit 31 && y.testBit 31) || (!(x.testBit 31 ^^ y.testBit 31) && d.testBit 31)) := by
    rw [← hr, Nat.testBit_or, Nat.testBit_and, Nat.testBit_and, Nat.testBit_xor, Nat.testBit_xor, Nat.testBit_xor, h1]
    cases x.testBit 31 <;> cases y.testBit 31 <;> cases d.testBit 31 <;> rfl
  rw [← top hrlt, e]
  have tx := top hx
  have ty := top hy
  have td := top hdlt
  cases hX : x.testBit 31 <;> cases hY : y.testBit 31 <;> cases hD : d.testBit 31 <;> rw [hX] at tx <;> rw [hY] at ty <;> rw [hD] at td <;> simp only [Bool.toNat_true, Bool.toNat_false] at tx ty td <;> simp <;> omega

/-! ### strings -/
def bs (l : List UInt8) : ByteArray := ⟨l.toArray⟩
def bl (s : ByteArray) : List UInt8 := s.data.toList
theorem bs_bl (s : ByteArray) : bs (bl s) = s := rfl
theorem bl_bs (l : List UInt8) : bl (bs l) = l := rfl
theorem bs_inj {l l' : List UInt8} : bs l = bs l' ↔ l = l' := ⟨fun h => by have := congrArg bl h; rwa [bl_bs, bl_bs] at this, fun h => by rw [h]⟩
theorem bs_nil : (⟨#[]⟩ : ByteArray) = bs [] := rfl
theorem bs_size (l : List UInt8) : (bs l).size = l.length := rfl
theorem bl_length (s : ByteArray) : (bl s).length = s.size := rfl
theorem bs_get (l : List UInt8) (i : Nat) : (bs l)[i]? = l[i]? := by
  by_cases h : i < l.length
  · have h' : i < (bs l).size := by rw [bs_size]; exact h
    rw [getElem?_pos (bs l) i h', List.getElem?_eq_getElem h]
    simp [bs]
    rfl
  · have h' : ¬ i < (bs l).size := by rw [bs_size]; exact h
    rw [getElem?_neg (bs l) i h', List.getElem?_eq_none (by omega)]
theorem bs_extract (l : List UInt8) (i j : Nat) : (bs l).extract i j = bs ((l.drop i).take (j - i)) := by
  have : bl ((bs l).extract i j) = (l.drop i).take (j - i) := by
    simp [bl, bs, ByteArray.data_extract]
  rw [← this, bs_bl]
end Go.Fw
set_option linter.unusedSimpArgs false
set_option linter.unusedVariables false
namespace Go.Fw
open Go

theorem aSlice_at {tt : TT} {H : Heap} {t e : TypeId} {sz by_ : Nat} {z : Value} {q : Option (List TD)} {s b i n c l h : Nat} {lo hi : Option Value} (ht : tt t = some ⟨.slice e, sz, by_, z, q⟩) (he : sizeT tt e = some s)
    (hB : ∃ B, H[b]? = some B ∧ B.esz = s) (hs : 0 < s) (hc : c = 0 ∨ n ≤ c) (hlo : bnd lo 0 = some l) (hhi : bnd hi n = some h) (h1 : l ≤ h) (h2 : h ≤ n) :
    aSlice tt H t (.slice (some ⟨b, i, none⟩) n c) lo hi none = some (.slice (some ⟨b, i + l * s, none⟩) (h - l) (c - l)) := by
  obtain ⟨B, hB1, hB2⟩ := hB
  cases c with
  | zero =>
    unfold aSlice
    rw [ht]
    simp only [he, hB1, hlo, hhi]
    rw [if_pos ⟨hB2, hs, h1, h2⟩]
    simp
  | succ c =>
    unfold aSlice
    rw [ht]
    have hm : bnd none (c + 1) = some (c + 1) := rfl
    simp only [he, hlo, hhi, hm]
    rw [if_pos ⟨h1, by omega, Nat.le_refl _, by simp⟩]
end Go.Fw
set_option linter.unusedSimpArgs false
set_option linter.unusedVariables false
namespace Go.Fw

/-! ### base 2^32, the least significant limb first -/
def valL : List Nat → Nat | [] => 0 | x :: l => x + 4294967296 * valL l
def small (l : List Nat) : Prop := ∀ x ∈ l, x < 4294967296
theorem small_nil : small [] := by intro x h; cases h
theorem small_cons {x : Nat} {l : List Nat} : small (x :: l) ↔ x < 4294967296 ∧ small l := by simp [small]
theorem small_app {l m : List Nat} : small (l ++ m) ↔ small l ∧ small m := by
  constructor
  · intro h; exact ⟨fun x hx => h x (List.mem_append_left _ hx), fun x hx => h x (List.mem_append_right _ hx)⟩
  · rintro ⟨h1, h2⟩ x hx
    rcases List.mem_append.1 hx with hx | hx
    · exact h1 x hx
    · exact h2 x hx
theorem small_take {l : List Nat} (h : small l) (k : Nat) : small (l.take k) := fun x hx => h x (List.mem_of_mem_take hx)
theorem small_get {l : List Nat} (h : small l) {k : Nat} (hk : k < l.length) : l[k] < 4294967296 := h _ (List.getElem_mem hk)
theorem small_set {l : List Nat} (h : small l) {k x : Nat} (hx : x < 4294967296) : small (l.set k x) := by
  intro y hy
  rcases List.mem_or_eq_of_mem_set hy with hy | rfl
  · exact h y hy
  · exact hx
theorem small_zeros (n : Nat) : small (List.replicate n 0) := by
  intro x hx; rw [(List.mem_replicate.1 hx).2]; decide
theorem valL_app (l m : List Nat) : valL (l ++ m) = valL l + 4294967296 ^ l.length * valL m := by
  induction l with
  | nil => simp [valL]
  | cons x l ih => simp only [List.cons_append, valL, ih, List.length_cons, Nat.pow_succ, Nat.mul_add]; rw [← Nat.mul_assoc, Nat.mul_comm 4294967296 (4294967296 ^ l.length)]; omega
theorem valL_snoc (l : List Nat) (x : Nat) : valL (l ++ [x]) = valL l + 4294967296 ^ l.length * x := by rw [valL_app]; simp [valL]
theorem valL_zeros (n : Nat) : valL (List.replicate n 0) = 0 := by
  induction n with
  | zero => rfl
  | succ n ih => simp [List.replicate_succ, valL, ih]
theorem valL_lt {l : List Nat} (h : small l) : valL l < 4294967296 ^ l.length := by
  induction l with
  | nil => simp [valL]
  | cons x l ih =>
    have ⟨h1, h2⟩ := small_cons.1 h
    have := ih h2
    simp only [valL, List.length_cons, Nat.pow_succ]
    have : 4294967296 * (valL l + 1) ≤ 4294967296 * 4294967296 ^ l.length := Nat.mul_le_mul_left _ this
    omega
theorem valL_inj {l m : List Nat} (hl : small l) (hm : small m) (hlen : l.length = m.length) (h : valL l = valL m) : l = m := by
  induction l generalizing m with
  | nil => cases m with
    | nil => rfl
    | cons _ _ => simp at hlen
  | cons x l ih =>
    cases m with
    | nil => simp at hlen
    | cons y m =>
      have ⟨h1, h2⟩ := small_cons.1 hl
      have ⟨h3, h4⟩ := small_cons.1 hm
      simp only [valL] at h
      have e : x = y := by omega
      rw [e, ih h2 h4 (by simpa using hlen) (by omega)]
theorem valL_take_drop (l : List Nat) (k : Nat) : valL l = valL (l.take k) + 4294967296 ^ (min k l.length) * valL (l.drop k) := by
  have := valL_app (l.take k) (l.drop k)
  rw [List.take_append_drop, List.length_take] at this
  exact this
theorem valL_take_succ {l : List Nat} {k : Nat} (hk : k < l.length) : valL (l.take (k + 1)) = valL (l.take k) + 4294967296 ^ k * l[k] := by
  rw [List.take_add_one, List.getElem?_eq_getElem hk, Option.toList_some, valL_snoc, List.length_take, Nat.min_eq_left (by omega)]
theorem valL_set {l : List Nat} {k x : Nat} (hk : k < l.length) : valL (l.set k x) + 4294967296 ^ k * l[k] = valL l + 4294967296 ^ k * x := by
  induction l generalizing k with
  | nil => simp at hk
  | cons y l ih =>
    cases k with
    | zero => simp [valL]; omega
    | succ k =>
      have := ih (k := k) (by simpa using hk)
      simp only [List.set_cons_succ, valL, List.getElem_cons_succ, Nat.pow_succ]
      have e : ∀ z, 4294967296 ^ k * 4294967296 * z = 4294967296 * (4294967296 ^ k * z) := fun z => by rw [Nat.mul_comm (4294967296 ^ k), Nat.mul_assoc]
      rw [e, e]
      omega
theorem valL_ge {l : List Nat} {k : Nat} (hk : k < l.length) : 4294967296 ^ k * l[k] ≤ valL l := by
  have := valL_set (x := 0) hk
  omega

def dropN : List Nat → List Nat | [] => [] | x :: l => if x = 0 then dropN l else x :: l
def trimZ (l : List Nat) : List Nat := (dropN l.reverse).reverse
theorem trimZ_nil : trimZ [] = [] := rfl
theorem trimZ_snoc (l : List Nat) (x : Nat) : trimZ (l ++ [x]) = if x = 0 then trimZ l else l ++ [x] := by
  unfold trimZ
  rw [List.reverse_append]
  simp only [List.reverse_cons, List.reverse_nil, List.nil_append, List.cons_append, dropN]
  split <;> simp
theorem trimZ_take (l : List Nat) : ∃ k, trimZ l = l.take k := by
  have key : ∀ r : List Nat, ∃ k, (dropN r) = r.drop k := by
    intro r
    induction r with
    | nil => exact ⟨0, rfl⟩
    | cons x r ih =>
      obtain ⟨k, hk⟩ := ih
      by_cases hx : x = 0
      · exact ⟨k + 1, by simp [dropN, hx, hk]⟩
      · exact ⟨0, by simp [dropN, hx]⟩
  obtain ⟨k, hk⟩ := key l.reverse
  refine ⟨l.length - k, ?_⟩
  unfold trimZ
  rw [hk, List.drop_reverse]
  simp
theorem snoc_ind {P : List Nat → Prop} (h0 : P []) (h1 : ∀ l x, P l → P (l ++ [x])) (l : List Nat) : P l := by
  have key : ∀ r : List Nat, P r.reverse := by
    intro r
    induction r with
    | nil => exact h0
    | cons x r ih => rw [List.reverse_cons]; exact h1 _ _ ih
  have := key l.reverse
  rwa [List.reverse_reverse] at this
theorem valL_trim (l : List Nat) : valL (trimZ l) = valL l := by
  refine snoc_ind (P := fun l => valL (trimZ l) = valL l) rfl (fun l x ih => ?_) l
  rw [trimZ_snoc]
  split
  · rename_i h; rw [ih, valL_snoc, h]; simp
  · rfl
theorem trim_trim (l : List Nat) : trimZ (trimZ l) = trimZ l := by
  refine snoc_ind (P := fun l => trimZ (trimZ l) = trimZ l) rfl (fun l x ih => ?_) l
  rw [trimZ_snoc]
  split
  · exact ih
  · rename_i h; rw [trimZ_snoc, if_neg h]
theorem small_trim {l : List Nat} (h : small l) : small (trimZ l) := by obtain ⟨k, hk⟩ := trimZ_take l; rw [hk]; exact small_take h k
theorem trim_len (l : List Nat) : (trimZ l).length ≤ l.length := by obtain ⟨k, hk⟩ := trimZ_take l; rw [hk]; simp; omega

/-- the limbs of a number, none of them superfluous -/
structure Canl (l : List Nat) (n : Nat) : Prop where
  small : Fw.small l
  trim : trimZ l = l
  val : valL l = n
theorem Canl.of_trim {l : List Nat} (h : Fw.small l) : Canl (trimZ l) (valL l) := ⟨small_trim h, trim_trim l, valL_trim l⟩
theorem trimmed_top {l : List Nat} (h : trimZ l = l) : l = [] ∨ ∃ m x, l = m ++ [x] ∧ x ≠ 0 := by
  revert h
  refine snoc_ind (P := fun l => trimZ l = l → l = [] ∨ ∃ m x, l = m ++ [x] ∧ x ≠ 0) (fun _ => .inl rfl) (fun l x ih h => ?_) l
  rw [trimZ_snoc] at h
  split at h
  · have e := trim_len l
    rw [h] at e
    simp at e
    omega
  · rename_i hx; exact .inr ⟨l, x, rfl, hx⟩
theorem Canl.ge {l : List Nat} {n : Nat} (h : Canl l n) (h0 : l ≠ []) : 4294967296 ^ (l.length - 1) ≤ n := by
  rcases trimmed_top h.trim with e | ⟨m, x, e, hx⟩
  · exact absurd e h0
  · rw [← h.val, e, valL_snoc]
    simp only [List.length_append, List.length_cons, List.length_nil, Nat.zero_add, Nat.add_sub_cancel]
    have : 4294967296 ^ m.length * 1 ≤ 4294967296 ^ m.length * x := Nat.mul_le_mul_left _ (by omega)
    omega
theorem Canl.lt {l : List Nat} {n : Nat} (h : Canl l n) : n < 4294967296 ^ l.length := by rw [← h.val]; exact valL_lt h.small
theorem Canl.nil_iff {l : List Nat} {n : Nat} (h : Canl l n) : l = [] ↔ n = 0 := by
  constructor
  · rintro rfl; exact h.val.symm
  · intro hn
    refine Classical.byContradiction fun h0 => ?_
    have := h.ge h0
    have : 0 < 4294967296 ^ (l.length - 1) := Nat.pow_pos (by decide)
    omega
theorem Canl.zero : Canl [] 0 := ⟨small_nil, rfl, rfl⟩
theorem Canl.len_le {l m : List Nat} {n k : Nat} (h : Canl l n) (h' : Canl m k) (hlt : l.length < m.length) : n < k := by
  have h1 := h.lt
  have h2 := h'.ge (by rintro rfl; simp at hlt)
  have : 4294967296 ^ l.length ≤ 4294967296 ^ (m.length - 1) := Nat.pow_le_pow_right (by decide) (by omega)
  omega
theorem Canl.uniq {l m : List Nat} {n : Nat} (h : Canl l n) (h' : Canl m n) : l = m := by
  rcases Nat.lt_trichotomy l.length m.length with hl | hl | hl
  · have := h.len_le h' hl; omega
  · exact valL_inj h.small h'.small hl (by rw [h.val, h'.val])
  · have := h'.len_le h hl; omega

theorem Canl.of_len {l : List Nat} {n : Nat} (hs : Fw.small l) (hv : valL l = n) (h : l = [] ∨ 4294967296 ^ (l.length - 1) ≤ n) : Canl l n := by
  refine ⟨hs, ?_, hv⟩
  revert hs hv h
  refine snoc_ind (P := fun l => Fw.small l → valL l = n → l = [] ∨ 4294967296 ^ (l.length - 1) ≤ n → trimZ l = l) (fun _ _ _ => rfl) (fun l x ih hs hv h => ?_) l
  rw [trimZ_snoc]
  split
  · rename_i hx
    rcases h with h | h
    · simp at h
    · rw [valL_snoc, hx] at hv
      have := valL_lt (small_app.1 hs).1
      simp at h
      omega
  · rfl
theorem pow_b (k : Nat) : 4294967296 ^ k = 2 ^ (32 * k) := by rw [show (4294967296 : Nat) = 2 ^ 32 from rfl, ← Nat.pow_mul]
theorem pow_d (k : Nat) : 256 ^ k = 2 ^ (8 * k) := by rw [show (256 : Nat) = 2 ^ 8 from rfl, ← Nat.pow_mul]
theorem pow_split (j : Nat) : 2 ^ (8 * j) = 4294967296 ^ (j / 4) * 2 ^ (8 * (j % 4)) := by rw [pow_b, ← Nat.pow_add]; congr 1; omega

theorem valL_top {l m : List Nat} {k : Nat} (hl : Fw.small l) (h1 : k < l.length) (h2 : k < m.length) (hd : l.drop (k + 1) = m.drop (k + 1)) (hlt : l[k] < m[k]) : valL l < valL m := by
  have e1 := valL_take_drop l (k + 1)
  have e2 := valL_take_drop m (k + 1)
  rw [Nat.min_eq_left (by omega)] at e1 e2
  rw [hd] at e1
  rw [valL_take_succ h1] at e1
  rw [valL_take_succ h2] at e2
  have h3 := valL_lt (small_take hl k)
  rw [List.length_take, Nat.min_eq_left (by omega)] at h3
  have h4 : 4294967296 ^ k * (l[k] + 1) ≤ 4294967296 ^ k * m[k] := Nat.mul_le_mul_left _ hlt
  rw [Nat.mul_add] at h4
  omega
theorem valL_take_getD (l : List Nat) (k : Nat) : valL (l.take (k + 1)) = valL (l.take k) + 4294967296 ^ k * l.getD k 0 := by
  by_cases h : k < l.length
  · rw [valL_take_succ h]; simp [h]
  · rw [List.take_of_length_le (by omega), List.take_of_length_le (by omega)]
    simp [show l.length ≤ k by omega]
theorem small_getD {l : List Nat} (h : Fw.small l) (k : Nat) : l.getD k 0 < 4294967296 := by
  by_cases hk : k < l.length
  · simp [hk]; exact small_get h hk
  · simp [show l.length ≤ k by omega]
/-- one more digit of a sum -/
theorem sum_step {A B C p c x y : Nat} (h : A + p * c = B + C) : A + p * ((c + x + y) % 4294967296) + p * 4294967296 * ((c + x + y) / 4294967296) = (B + p * x) + (C + p * y) := by
  have e := Nat.mod_add_div (c + x + y) 4294967296
  have e2 : p * ((c + x + y) % 4294967296) + p * 4294967296 * ((c + x + y) / 4294967296) = p * (c + x + y) := by
    rw [Nat.mul_assoc, ← Nat.mul_add, e]
  rw [Nat.add_assoc, e2, Nat.mul_add, Nat.mul_add]
  omega
theorem valL_take_set {o : List Nat} {j x : Nat} (h : j < o.length) : valL ((o.set j x).take (j + 1)) = valL (o.take j) + 4294967296 ^ j * x := by
  rw [valL_take_succ (by simpa using h), List.take_set_of_le (Nat.le_refl _)]
  simp

theorem valL_set' {l : List Nat} {k x : Nat} (hk : k < l.length) : valL (l.set k x) + 4294967296 ^ k * l.getD k 0 = valL l + 4294967296 ^ k * x := by
  have := valL_set (x := x) hk
  simpa [hk] using this
/-- one more digit of a product: p weighs the place -/
theorem mul_step {A A' S p c x y d : Nat} (hA : A + p * c = S) (hs : A' + p * d = A + p * ((c + (x * y + d)) % 4294967296)) : A' + p * 4294967296 * ((c + (x * y + d)) / 4294967296) = S + p * (x * y) := by
  have e := Nat.mod_add_div (c + (x * y + d)) 4294967296
  have e2 : p * ((c + (x * y + d)) % 4294967296) + p * 4294967296 * ((c + (x * y + d)) / 4294967296) = p * c + (p * (x * y) + p * d) := by
    rw [Nat.mul_assoc, ← Nat.mul_add, e, Nat.mul_add, Nat.mul_add]
  omega
theorem mul_carry {c x y d : Nat} (hc : c < 4294967296) (hx : x < 4294967296) (hy : y < 4294967296) (hd : d < 4294967296) : c + (x * y + d) < 18446744073709551616 := by
  have : x * y ≤ 4294967295 * 4294967295 := Nat.mul_le_mul (by omega) (by omega)
  omega
theorem top_zero {l : List Nat} {k : Nat} (h : valL l < 4294967296 ^ k) : l.getD k 0 = 0 := by
  by_cases hk : k < l.length
  · have := valL_ge hk
    simp [hk]
    refine Classical.byContradiction fun h0 => ?_
    have : 4294967296 ^ k * 1 ≤ 4294967296 ^ k * l[k] := Nat.mul_le_mul_left _ (by omega)
    omega
  · simp [show l.length ≤ k by omega]

/-- which of two numbers is greater -/
def cmpN (n k : Nat) : Int := if n < k then -1 else if k < n then 1 else 0

/-! ### base 256, the most significant digit first -/
def valB (l : List UInt8) : Nat := l.foldl (fun n b => n * 256 + b.toNat) 0
theorem valB_snoc (l : List UInt8) (b : UInt8) : valB (l ++ [b]) = valB l * 256 + b.toNat := by simp [valB]
theorem valB_from (l : List UInt8) (n : Nat) : l.foldl (fun n b => n * 256 + b.toNat) n = n * 256 ^ l.length + valB l := by
  induction l generalizing n with
  | nil => simp [valB]
  | cons b l ih =>
    have h1 := ih (n * 256 + b.toNat)
    have h2 := ih (0 * 256 + b.toNat)
    simp only [valB, List.foldl_cons] at h1 h2 ⊢
    rw [h1, h2]
    simp only [List.length_cons, Nat.pow_succ, Nat.add_mul, Nat.zero_mul, Nat.zero_add]
    have e : n * 256 * 256 ^ l.length = n * (256 ^ l.length * 256) := by rw [Nat.mul_assoc, Nat.mul_comm 256]
    omega
theorem valB_cons (b : UInt8) (l : List UInt8) : valB (b :: l) = b.toNat * 256 ^ l.length + valB l := by
  have := valB_from l (0 * 256 + b.toNat)
  simpa [valB] using this
theorem valB_lt (l : List UInt8) : valB l < 256 ^ l.length := by
  induction l with
  | nil => simp [valB]
  | cons b l ih =>
    rw [valB_cons, List.length_cons, Nat.pow_succ]
    have h1 := b.toNat_lt
    have : b.toNat * 256 ^ l.length ≤ 255 * 256 ^ l.length := Nat.mul_le_mul_right _ (by omega)
    omega
/-- digits without leading zeros -/
def dropZ : List UInt8 → List UInt8 | [] => [] | b :: l => if b = 0 then dropZ l else b :: l
theorem valB_drop (l : List UInt8) : valB (dropZ l) = valB l := by
  induction l with
  | nil => rfl
  | cons b l ih =>
    unfold dropZ
    split
    · rename_i h; rw [ih, valB_cons, h]; simp
    · rfl
theorem dropZ_len (l : List UInt8) : (dropZ l).length ≤ l.length := by
  induction l with
  | nil => simp [dropZ]
  | cons b l ih => unfold dropZ; split <;> simp; omega
theorem dropZ_idem (l : List UInt8) : dropZ (dropZ l) = dropZ l := by
  induction l with
  | nil => rfl
  | cons b l ih =>
    by_cases h : b = 0
    · simp [dropZ, h, ih]
    · simp [dropZ, h]
theorem u8_zero {b : UInt8} : ((b.toNat : Int) = 0) ↔ b = 0 := by
  constructor
  · intro h
    have : b.toNat = 0 := by omega
    exact UInt8.toNat_inj.1 this
  · rintro rfl; rfl
theorem dropZ_ge {l : List UInt8} (h : dropZ l = l) (h0 : l ≠ []) : 256 ^ (l.length - 1) ≤ valB l := by
  cases l with
  | nil => exact absurd rfl h0
  | cons b l =>
    have hb : b ≠ 0 := by
      rintro rfl
      have := dropZ_len l
      simp [dropZ] at h
      rw [h] at this; simp at this
      omega
    have : b.toNat ≠ 0 := fun e => hb (UInt8.toNat_inj.1 e)
    rw [valB_cons]
    simp only [List.length_cons, Nat.add_sub_cancel]
    have : 1 * 256 ^ l.length ≤ b.toNat * 256 ^ l.length := Nat.mul_le_mul_right _ (by omega)
    omega
/-- the digits of a number -/
def digB (n : Nat) : List UInt8 := if h : n = 0 then [] else digB (n / 256) ++ [UInt8.ofNat (n % 256)]
termination_by n
decreasing_by omega
theorem valB_inj {l m : List UInt8} (hlen : l.length = m.length) (h : valB l = valB m) : l = m := by
  induction l generalizing m with
  | nil => cases m with
    | nil => rfl
    | cons _ _ => simp at hlen
  | cons b l ih =>
    cases m with
    | nil => simp at hlen
    | cons c m =>
      rw [valB_cons, valB_cons] at h
      have hl : l.length = m.length := by simpa using hlen
      have h1 := valB_lt l
      have h2 := valB_lt m
      rw [hl] at h h1
      have hp : 0 < 256 ^ m.length := Nat.pow_pos (by decide)
      have e : b.toNat = c.toNat := by
        have a1 : (b.toNat * 256 ^ m.length + valB l) / 256 ^ m.length = b.toNat := by rw [Nat.mul_comm, Nat.mul_add_div hp, Nat.div_eq_of_lt h1]; rfl
        have a2 : (c.toNat * 256 ^ m.length + valB m) / 256 ^ m.length = c.toNat := by rw [Nat.mul_comm, Nat.mul_add_div hp, Nat.div_eq_of_lt h2]; rfl
        rw [← a1, ← a2, h]
      rw [UInt8.toNat_inj.1 e, ih hl (by rw [e] at h; omega)]
theorem dropZ_uniq {l m : List UInt8} (hl : dropZ l = l) (hm : dropZ m = m) (h : valB l = valB m) : l = m := by
  have key : ∀ {l m : List UInt8}, dropZ l = l → dropZ m = m → valB l = valB m → ¬ l.length < m.length := by
    intro l m hl hm h hlt
    have h1 := valB_lt l
    have h2 := dropZ_ge hm (by rintro rfl; simp at hlt)
    have : 256 ^ l.length ≤ 256 ^ (m.length - 1) := Nat.pow_le_pow_right (by decide) (by omega)
    omega
  exact valB_inj (by have := key hl hm h; have := key hm hl h.symm; omega) h
theorem valB_dig (n : Nat) : valB (digB n) = n := by
  induction n using Nat.strongRecOn with
  | _ n ih =>
    unfold digB
    split
    · rename_i h; rw [h]; rfl
    · rw [valB_snoc, ih (n / 256) (by omega)]
      have : (UInt8.ofNat (n % 256)).toNat = n % 256 := by simp
      omega
theorem dropZ_app {l m : List UInt8} (h : dropZ l = l) (h0 : l ≠ []) : dropZ (l ++ m) = l ++ m := by
  cases l with
  | nil => exact absurd rfl h0
  | cons b l =>
    by_cases hb : b = 0
    · simp [dropZ, hb] at h
      have := dropZ_len l
      rw [h] at this; simp at this; omega
    · simp [dropZ, hb]
theorem digB_zero : digB 0 = [] := by unfold digB; rfl
theorem digB_drop (n : Nat) : dropZ (digB n) = digB n := by
  induction n using Nat.strongRecOn with
  | _ n ih =>
    by_cases h : n = 0
    · rw [h, digB_zero]; rfl
    · unfold digB
      rw [dif_neg h]
      by_cases h2 : n / 256 = 0
      · rw [h2, digB_zero]
        have : UInt8.ofNat (n % 256) ≠ 0 := by
          intro e
          have e2 := congrArg UInt8.toNat e
          simp at e2
          omega
        simp [dropZ, this]
      · refine dropZ_app (ih _ (by omega)) ?_
        intro e
        have := valB_dig (n / 256)
        rw [e] at this
        exact h2 this.symm
theorem digB_valB {l : List UInt8} (h : dropZ l = l) : digB (valB l) = l := dropZ_uniq (digB_drop _) h (valB_dig _)
theorem digB_strip (l : List UInt8) : dropZ l = digB (valB l) := by rw [← valB_drop l, digB_valB (dropZ_idem l)]
theorem digB_len (n k : Nat) (h : n < 256 ^ k) : (digB n).length ≤ k := by
  refine Classical.byContradiction fun hk => ?_
  have h1 := dropZ_ge (digB_drop n) (by intro e; rw [e] at hk; simp at hk)
  rw [valB_dig] at h1
  have : 256 ^ k ≤ 256 ^ ((digB n).length - 1) := Nat.pow_le_pow_right (by decide) (by omega)
  omega
theorem digB_nil_iff {n : Nat} : digB n = [] ↔ n = 0 := by
  constructor
  · intro h; have := valB_dig n; rw [h] at this; exact this.symm
  · rintro rfl; exact digB_zero
end Go.Fw
set_option linter.unusedSimpArgs false
set_option linter.unusedVariables false
namespace Go.Fw
open Go

/-! ### limbs -/
def u32s (l : List Nat) : List Value := l.map fun (x : Nat) => Value.int .u32 (x : Int)
/-- a row of limbs lies where a slice points -/
structure LimAt (H : Heap) (b i c : Nat) (l : List Nat) : Prop where
  cap : c = 0 ∨ l.length ≤ c
  blk : ∃ B, H[b]? = some B ∧ B.esz = 1 ∧ i + l.length ≤ B.cells.length ∧ (B.cells.drop i).take l.length = u32s l
  len : l.length ≤ 1099511627776
def Lim (H : Heap) (v : Value) (l : List Nat) : Prop := (v = .slice none 0 0 ∧ l = []) ∨ ∃ b i c, v = .slice (some ⟨b, i, none⟩) l.length c ∧ LimAt H b i c l

theorem LimAt.rd {H : Heap} {b i c : Nat} {l : List Nat} (h : LimAt H b i c l) {k : Nat} (hk : k < l.length) : rd H b (i + k) 1 = some [.int .u32 (l[k] : Nat)] := by
  obtain ⟨B, h1, h2, h3, h4⟩ := h.blk
  unfold Fw.rd
  rw [h1]
  simp only
  rw [if_pos (by omega)]
  have e : ((B.cells.drop i).take l.length)[k]? = some (.int .u32 (l[k] : Nat)) := by rw [h4]; simp [u32s, hk]
  rw [List.getElem?_take, if_pos hk, List.getElem?_drop] at e
  congr 1
  apply List.ext_getElem?
  intro j
  rw [List.getElem?_take, List.getElem?_drop]
  by_cases hj : j < 1
  · obtain rfl : j = 0 := by omega
    simpa using e
  · rw [if_neg hj]; simp; omega
theorem LimAt.take {H : Heap} {b i c : Nat} {l : List Nat} (h : LimAt H b i c l) (k : Nat) : LimAt H b i c (l.take k) := by
  obtain ⟨B, h1, h2, h3, h4⟩ := h.blk
  have := h.len
  refine ⟨by have := h.cap; simp; omega, ⟨B, h1, h2, by simp; omega, ?_⟩, by simp; omega⟩
  have : u32s (l.take k) = (u32s l).take k := by simp [u32s, List.map_take]
  rw [this, ← h4, List.take_take, List.length_take]
theorem LimAt.app {H : Heap} {b i c : Nat} {l : List Nat} (h : LimAt H b i c l) (G : Heap) : LimAt (H ++ G) b i c l := by
  obtain ⟨B, h1, h2⟩ := h.blk
  refine ⟨h.cap, ⟨B, ?_, h2⟩, h.len⟩
  have : b < H.length := by rcases List.getElem?_eq_some_iff.1 h1 with ⟨h, _⟩; exact h
  rw [List.getElem?_append_left this]; exact h1
theorem Lim.app {H : Heap} {v : Value} {l : List Nat} (h : Lim H v l) (G : Heap) : Lim (H ++ G) v l := by
  rcases h with h | ⟨b, i, c, h1, h2⟩
  · exact .inl h
  · exact .inr ⟨b, i, c, h1, h2.app G⟩


theorem LimAt.lim {H : Heap} {b i c : Nat} {l : List Nat} (h : LimAt H b i c l) : Lim H (.slice (some ⟨b, i, none⟩) l.length c) l := .inr ⟨b, i, c, rfl, h⟩

theorem u32s_length (l : List Nat) : (u32s l).length = l.length := by simp [u32s]
theorem u32s_set (l : List Nat) (k x : Nat) : (u32s l).set k (.int .u32 (x : Nat)) = u32s (l.set k x) := by simp [u32s, List.map_set]
theorem u32s_app (l m : List Nat) : u32s l ++ u32s m = u32s (l ++ m) := by simp [u32s]
theorem u32s_zeros (n : Nat) : List.replicate n (Value.int .u32 0) = u32s (List.replicate n 0) := by simp [u32s]
theorem splice_one (cs : List Value) (k : Nat) (v : Value) (h : k < cs.length) : splice cs k [v] = cs.set k v := by
  unfold splice
  rw [List.set_eq_take_append_cons_drop]
  simp [h]
/-- a row at the end of the heap -/
theorem row_rd {l : List Nat} {L : Heap} {k : Nat} (h : k < l.length) : rd (⟨u32s l, 1, true⟩ :: L) 0 k 1 = some [.int .u32 (l[k] : Nat)] := by
  unfold rd
  simp only [List.getElem?_cons_zero]
  rw [if_pos (by simp [u32s_length]; omega)]
  congr 1
  apply List.ext_getElem?
  intro j
  rw [List.getElem?_take, List.getElem?_drop]
  by_cases hj : j < 1
  · obtain rfl : j = 0 := by omega
    simp [u32s, h]
  · rw [if_neg hj]; simp; omega
theorem row_wr {l : List Nat} {L : Heap} {k x : Nat} (h : k < l.length) : wr (⟨u32s l, 1, true⟩ :: L) 0 k [.int .u32 (x : Nat)] = some (⟨u32s (l.set k x), 1, true⟩ :: L) := by
  rw [wr_eq]
  simp only [List.getElem?_cons_zero, List.set_cons_zero]
  rw [if_pos (by simp [u32s_length, allC, isCell]; omega), splice_one _ _ _ (by rw [u32s_length]; exact h), u32s_set]
theorem row_lim {H : Heap} {l : List Nat} {L : Heap} {c : Nat} (hc : c = 0 ∨ l.length ≤ c) (hl : l.length ≤ 1099511627776) : LimAt (H ++ (⟨u32s l, 1, true⟩ :: L)) H.length 0 c l :=
  ⟨hc, ⟨⟨u32s l, 1, true⟩, by simp, rfl, by simp [u32s_length], by simp [← u32s_length]⟩, hl⟩

/-- a number as a row of limbs -/
def LN (H : Heap) (v : Value) (n : Nat) : Prop := ∃ l, Lim H v l ∧ Canl l n
theorem LN.app {H : Heap} {v : Value} {n : Nat} (h : LN H v n) (G : Heap) : LN (H ++ G) v n := let ⟨l, h1, h2⟩ := h; ⟨l, h1.app G, h2⟩
theorem LN.nil (H : Heap) : LN H (.slice none 0 0) 0 := ⟨[], .inl ⟨rfl, rfl⟩, Canl.zero⟩
/-- bounds -/
def Fit (n : Nat) : Prop := ∃ k, k ≤ 1000000 ∧ n < 2 ^ k
theorem Canl.short {l : List Nat} {n : Nat} (h : Canl l n) (hf : Fit n) : l.length ≤ 1000000 := by
  obtain ⟨k, hk, hn⟩ := hf
  refine Classical.byContradiction fun hlt => ?_
  have h1 := h.ge (by rintro rfl; simp at hlt)
  have h2 : 2 ^ k ≤ 4294967296 ^ (l.length - 1) := by
    have : (4294967296 : Nat) = 2 ^ 32 := rfl
    rw [this, ← Nat.pow_mul]
    exact Nat.pow_le_pow_right (by decide) (by omega)
  omega
theorem valB_fit {m : List UInt8} (h : m.length ≤ 125000) : Fit (valB m) := by
  refine ⟨8 * m.length, by omega, ?_⟩
  have := valB_lt m
  have e : (256 : Nat) = 2 ^ 8 := rfl
  rwa [e, ← Nat.pow_mul] at this
theorem digB_len3 {n j k : Nat} (h : n < 2 ^ k) (hk : k ≤ 8 * j) : (digB n).length ≤ j := by
  refine digB_len n j (Nat.lt_of_lt_of_le h ?_)
  rw [pow_d]
  exact Nat.pow_le_pow_right (by decide) hk
theorem digB_short {n : Nat} (h : Fit n) : (digB n).length ≤ 125001 := by
  obtain ⟨k, hk, hn⟩ := h
  exact digB_len3 hn (by omega)
theorem Lim.at {H : Heap} {v : Value} {l : List Nat} (h : Lim H v l) (h0 : l ≠ []) : ∃ b i c, v = .slice (some ⟨b, i, none⟩) l.length c ∧ LimAt H b i c l := by
  rcases h with ⟨_, h⟩ | h
  · exact absurd h h0
  · exact h
theorem Lim.len {tt : TT} {H : Heap} {v : Value} {l : List Nat} (h : Lim H v l) {t e : TypeId} {sz by_ : Nat} {z : Value} {q : Option (List TD)} (ht : tt t = some ⟨.slice e, sz, by_, z, q⟩) : aLen tt [t] v = some (.int .i64 (l.length : Nat)) := by
  rcases h with ⟨rfl, rfl⟩ | ⟨b, i, c, rfl, h⟩ <;> simp [aLen, ht]
/-- only new blocks -/
def Ext (H H' : Heap) : Prop := ∃ G, H' = H ++ G
theorem Ext.refl (H : Heap) : Ext H H := ⟨[], by simp⟩
theorem Ext.app (H G : Heap) : Ext H (H ++ G) := ⟨G, rfl⟩
theorem Ext.trans {H H1 H2 : Heap} (h1 : Ext H H1) (h2 : Ext H1 H2) : Ext H H2 := by
  obtain ⟨G, rfl⟩ := h1; obtain ⟨G', rfl⟩ := h2; exact ⟨G ++ G', by rw [List.append_assoc]⟩
theorem LN.ext {H H' : Heap} {v : Value} {n : Nat} (h : LN H v n) (e : Ext H H') : LN H' v n := by obtain ⟨G, rfl⟩ := e; exact h.app G
theorem Lim.ext {H H' : Heap} {v : Value} {l : List Nat} (h : Lim H v l) (e : Ext H H') : Lim H' v l := by obtain ⟨G, rfl⟩ := e; exact h.app G
end Go.Fw
set_option linter.unusedSimpArgs false
set_option linter.unusedVariables false
namespace Go.Fw
open Go

def u8s (l : List UInt8) : List Value := l.map fun b => Value.int .u8 (b.toNat : Int)
theorem u8s_length (l : List UInt8) : (u8s l).length = l.length := by simp [u8s]
theorem u8s_app (l m : List UInt8) : u8s l ++ u8s m = u8s (l ++ m) := by simp [u8s]
theorem u8s_cell (l : List UInt8) : (u8s l).all isCell = true := by simp [u8s, isCell]
theorem bytesOf_u8s (l : List UInt8) : bytesOf (u8s l) = some l := by
  induction l with
  | nil => rfl
  | cons b l ih =>
    have : u8s (b :: l) = Value.int .u8 (b.toNat : Int) :: u8s l := rfl
    rw [this]
    unfold bytesOf
    rw [ih]
    simp
theorem rd_whole {H : Heap} {b : Nat} {B : Blk} (h : H[b]? = some B) (he : 0 < B.esz) : rd H b 0 B.cells.length = some B.cells := by
  unfold rd
  rw [h]
  simp [he]
theorem rd_end {H : Heap} {cs : List Value} {e : Nat} {o : Bool} {L : Heap} (he : 0 < e) : rd (H ++ (⟨cs, e, o⟩ :: L)) H.length 0 cs.length = some cs := by
  rw [rd_app0]
  unfold rd
  simp [he]
theorem Ext.set {H H' : Heap} (h : Ext H H') {b : Nat} (hb : H.length ≤ b) (B : Blk) : Ext H (H'.set b B) := by
  obtain ⟨G, rfl⟩ := h
  exact ⟨G.set (b - H.length) B, List.set_append_right _ _ hb⟩
theorem Ext.get {H H' : Heap} (h : Ext H H') {b : Nat} {B : Blk} (hb : H[b]? = some B) : H'[b]? = some B := by
  obtain ⟨G, rfl⟩ := h
  have : b < H.length := by rcases List.getElem?_eq_some_iff.1 hb with ⟨h, _⟩; exact h
  rw [List.getElem?_append_left this]; exact hb
theorem LimAt.ext {H H' : Heap} {b i c : Nat} {l : List Nat} (h : LimAt H b i c l) (e : Ext H H') : LimAt H' b i c l := by obtain ⟨G, rfl⟩ := e; exact h.app G
theorem Ext.len {H H' : Heap} (h : Ext H H') : H.length ≤ H'.length := by obtain ⟨G, rfl⟩ := h; simp

/-- append to a row of which nothing but its length is known -/
theorem append_row {tt : TT} {T : Heap} {t e : TypeId} {sz by_ b bx ix cx m : Nat} {z : Value} {q : Option (List TD)} {d : TD} {ez : Value} {eq : Option (List TD)} {eb : Nat} {old new : List Value}
    (ht : tt t = some ⟨.slice e, sz, by_, z, q⟩) (he : tt e = some ⟨d, 1, eb, ez, eq⟩) (hez : ez.cells.size = 1) (hb1 : 0 < eb) (hb2 : eb ≤ 1048576)
    (hb : T[b]? = some ⟨old, 1, true⟩) (hx : rd T bx ix m = some new) (hm : new.length = m) (h0 : 0 < m) (hc : new.all isCell = true) (hs : (old.length + m) * eb ≤ 1099511627776) :
    aAppend tt T [t, t] (.slice (some ⟨b, 0, none⟩) old.length 0) (.slice (some ⟨bx, ix, none⟩) m cx) = some (.slice (some ⟨T.length, 0, none⟩) (old.length + m) 0, T.set b deadBlk ++ [⟨old ++ new, 1, true⟩]) := by
  have hold := rd_whole hb (by simp)
  unfold aAppend
  simp only [ht, he, srcLen, srcKind, srcCells, Nat.mul_one, hx, hold, hb]
  rw [if_pos ⟨by decide, trivial, hb1, hb2, fun _ => hez⟩, if_pos ⟨hm, hc⟩, if_neg (by omega), if_pos hs, if_neg (by simp)]
  simp
theorem append_nil {tt : TT} {T : Heap} {t e : TypeId} {sz by_ bx ix cx m : Nat} {z : Value} {q : Option (List TD)} {d : TD} {ez : Value} {eq : Option (List TD)} {eb : Nat} {new : List Value}
    (ht : tt t = some ⟨.slice e, sz, by_, z, q⟩) (he : tt e = some ⟨d, 1, eb, ez, eq⟩) (hez : ez.cells.size = 1) (hb1 : 0 < eb) (hb2 : eb ≤ 1048576)
    (hx : rd T bx ix m = some new) (hm : new.length = m) (h0 : 0 < m) (hc : new.all isCell = true) (hs : m * eb ≤ 1099511627776) :
    aAppend tt T [t, t] (.slice none 0 0) (.slice (some ⟨bx, ix, none⟩) m cx) = some (.slice (some ⟨T.length, 0, none⟩) m 0, T ++ [⟨new, 1, true⟩]) := by
  unfold aAppend
  simp only [ht, he, srcLen, srcKind, srcCells, Nat.mul_one, hx]
  rw [if_pos ⟨by decide, trivial, hb1, hb2, fun _ => hez⟩, if_pos ⟨hm, hc⟩, if_neg (by omega), if_pos hs]
/-- append within the capacity -/
theorem append_in {tt : TT} {T : Heap} {t e : TypeId} {sz by_ b i n c bx ix cx m : Nat} {z : Value} {q : Option (List TD)} {d : TD} {ez : Value} {eq : Option (List TD)} {eb : Nat} {new : List Value}
    (ht : tt t = some ⟨.slice e, sz, by_, z, q⟩) (he : tt e = some ⟨d, 1, eb, ez, eq⟩) (hez : ez.cells.size = 1) (hb1 : 0 < eb) (hb2 : eb ≤ 1048576)
    (hx : rd T bx ix m = some new) (hm : new.length = m) (h0 : 0 < m) (hc : new.all isCell = true) (hs : (n + m) * eb ≤ 1099511627776) (hcap : c ≠ 0 ∧ n + m ≤ c) :
    aAppend tt T [t, t] (.slice (some ⟨b, i, none⟩) n c) (.slice (some ⟨bx, ix, none⟩) m cx) = (wr T b (i + n) new).map fun H' => (.slice (some ⟨b, i, none⟩) (n + m) c, H') := by
  unfold aAppend
  simp only [ht, he, srcLen, srcKind, srcCells, Nat.mul_one, hx]
  rw [if_pos ⟨by decide, trivial, hb1, hb2, fun _ => hez⟩, if_pos ⟨hm, hc⟩, if_neg (by omega), if_pos hs, if_pos hcap]

/-- a block that is a row of limbs -/
def Row (T : Heap) (b : Nat) (o : List Nat) : Prop := T[b]? = some ⟨u32s o, 1, true⟩
theorem Row.rd {T : Heap} {b : Nat} {o : List Nat} (h : Row T b o) {j : Nat} (hj : j < o.length) : rd T b j 1 = some [.int .u32 (o[j] : Nat)] := by
  have := row_rd (L := []) hj
  unfold Fw.rd at this ⊢
  unfold Row at h
  rw [h]; exact this
theorem Row.wr {T : Heap} {b : Nat} {o : List Nat} (h : Row T b o) {j x : Nat} (hj : j < o.length) : wr T b j [.int .u32 (x : Nat)] = some (T.set b ⟨u32s (o.set j x), 1, true⟩) := by
  rw [wr_eq]
  unfold Row at h
  rw [h]
  simp only
  rw [if_pos (by simp [u32s_length, allC, isCell]; omega), splice_one _ _ _ (by rw [u32s_length]; exact hj), u32s_set]
theorem Row.lt {T : Heap} {b : Nat} {o : List Nat} (h : Row T b o) : b < T.length := by rcases List.getElem?_eq_some_iff.1 h with ⟨h, _⟩; exact h
theorem Row.set {T : Heap} {b : Nat} {o o' : List Nat} (h : Row T b o) : Row (T.set b ⟨u32s o', 1, true⟩) b o' := by
  unfold Row
  rw [List.getElem?_set_self h.lt]
theorem Row.other {T : Heap} {b b' : Nat} {o : List Nat} (h : Row T b o) (hne : b' ≠ b) (B : Blk) : Row (T.set b' B) b o := by
  unfold Row at h ⊢
  rw [List.getElem?_set_ne hne]; exact h
theorem Row.app {T : Heap} {b : Nat} {o : List Nat} (h : Row T b o) (G : Heap) : Row (T ++ G) b o := by
  have := h.lt
  unfold Row at h ⊢
  rw [List.getElem?_append_left this]; exact h
theorem Row.new (T : Heap) (o : List Nat) : Row (T ++ [⟨u32s o, 1, true⟩]) T.length o := by simp [Row]
theorem Row.at {T : Heap} {b : Nat} {o : List Nat} (h : Row T b o) {c : Nat} (n : Nat) (hc : c = 0 ∨ n ≤ c) (hl : o.length ≤ 1099511627776) (hn : n ≤ o.length) : LimAt T b 0 c (o.take n) :=
  by
  refine ⟨by simp; omega, ⟨_, h, rfl, by simp [u32s_length]; omega, by simp [u32s, List.map_take]⟩, by simp; omega⟩
theorem Row.append {tt : TT} {T : Heap} {t e : TypeId} {sz by_ b n c x : Nat} {z : Value} {q : Option (List TD)} {d : TD} {ez : Value} {eq : Option (List TD)} {eb : Nat} {o : List Nat}
    (ht : tt t = some ⟨.slice e, sz, by_, z, q⟩) (he : tt e = some ⟨d, 1, eb, ez, eq⟩) (hez : ez.cells.size = 1) (hb1 : 0 < eb) (hb2 : eb ≤ 1048576)
    (h : Row T b o) (hn : n < o.length) (hc : n + 1 ≤ c) (hs : (n + 1) * eb ≤ 1099511627776) :
    aAppend tt (T ++ [⟨[.int .u32 (x : Nat)], 1, true⟩]) [t, t] (.slice (some ⟨b, 0, none⟩) n c) (.slice (some ⟨T.length, 0, none⟩) 1 1) =
      some (.slice (some ⟨b, 0, none⟩) (n + 1) c, (T ++ ([⟨[.int .u32 (x : Nat)], 1, true⟩] : Heap)).set b ⟨u32s (o.set n x), 1, true⟩) := by
  have hx := rd_end (H := T) (cs := [Value.int .u32 (x : Nat)]) (o := true) (L := []) (show 0 < 1 by decide)
  have hcap : c ≠ 0 ∧ n + 1 ≤ c := ⟨by omega, hc⟩
  rw [append_in (m := 1) ht he hez hb1 hb2 hx rfl (by decide) rfl hs hcap, Nat.zero_add, (h.app _).wr hn]
  rfl
end Go.Fw
set_option linter.unusedSimpArgs false
set_option linter.unusedVariables false
namespace Go.Fw

/-- a digit of a number -/
theorem valL_drop (l : List Nat) (hs : small l) (j : Nat) : valL (l.drop j) = valL l / 4294967296 ^ j := by
  by_cases hj : j ≤ l.length
  · have h1 := valL_take_drop l j
    have h2 := valL_lt (small_take hs j)
    rw [List.length_take] at h2
    rw [Nat.min_eq_left hj] at h1 h2
    rw [h1, Nat.add_mul_div_left _ _ (Nat.pow_pos (by decide)), Nat.div_eq_of_lt h2, Nat.zero_add]
  · rw [List.drop_eq_nil_of_le (by omega)]
    have h2 := valL_lt hs
    have h3 : 4294967296 ^ l.length ≤ 4294967296 ^ j := Nat.pow_le_pow_right (by decide) (by omega)
    rw [Nat.div_eq_of_lt (by omega)]
    rfl
theorem valL_mod (l : List Nat) (hs : small l) (j : Nat) : valL (l.take j) = valL l % 4294967296 ^ j := by
  have h1 := valL_take_drop l j
  have h2 := valL_lt (small_take hs j)
  rw [List.length_take] at h2
  by_cases hj : j ≤ l.length
  · rw [Nat.min_eq_left hj] at h1 h2
    rw [h1, Nat.add_mul_mod_self_left, Nat.mod_eq_of_lt h2]
  · rw [List.take_of_length_le (by omega)]
    have h2 := valL_lt hs
    have h3 : 4294967296 ^ l.length ≤ 4294967296 ^ j := Nat.pow_le_pow_right (by decide) (by omega)
    rw [Nat.mod_eq_of_lt (by omega)]
theorem valL_digit (l : List Nat) (hs : small l) (j : Nat) : l.getD j 0 = valL l / 4294967296 ^ j % 4294967296 := by
  rw [← valL_drop l hs j]
  by_cases hj : j < l.length
  · rw [List.drop_eq_getElem_cons hj]
    have := small_get hs hj
    simp only [valL]
    rw [Nat.add_mul_mod_self_left, Nat.mod_eq_of_lt this]
    simp [hj]
  · rw [List.drop_eq_nil_of_le (by omega)]
    simp [valL, show l.length ≤ j by omega]
theorem valL_high {l : List Nat} (hs : small l) {j : Nat} (h : valL l < 4294967296 ^ j) : l.drop j = List.replicate (l.length - j) 0 := by
  have h1 := valL_drop l hs j
  rw [Nat.div_eq_of_lt h] at h1
  refine valL_inj (fun x hx => hs x (List.mem_of_mem_drop hx)) (small_zeros _) (by simp) (by rw [h1, valL_zeros])
theorem valL_low {l : List Nat} {j : Nat} (hs : small l) (h : l.drop j = List.replicate (l.length - j) 0) : valL l < 4294967296 ^ j := by
  have h1 := valL_take_drop l j
  rw [h, valL_zeros, Nat.mul_zero, Nat.add_zero] at h1
  have h2 := valL_lt (small_take hs j)
  rw [h1]
  refine Nat.lt_of_lt_of_le h2 (Nat.pow_le_pow_right (by decide) ?_)
  simp; omega

/-- a guess that is too great -/
theorem knuth_hi {X V P t g w : Nat} (hP : 0 < P) (hV : w * P ≤ V) (hX : X < (t + 1) * P) (h : t + 1 ≤ g * w) : X < g * V := by
  have h1 : g * (w * P) ≤ g * V := Nat.mul_le_mul_left _ hV
  have h2 : (t + 1) * P ≤ g * w * P := Nat.mul_le_mul_right _ h
  rw [Nat.mul_assoc] at h2
  omega
/-- a guess that is at most one too great -/
theorem knuth_lo {X V P t g w : Nat} (hP : 0 < P) (hV : V < (w + 1) * P) (hX : t * P ≤ X) (h : g * w ≤ t) (hg : g ≤ w + 1) : (g - 1) * V ≤ X := by
  cases g with
  | zero => simp
  | succ g =>
    simp only [Nat.add_sub_cancel]
    have h1 : g * V ≤ g * ((w + 1) * P) := Nat.mul_le_mul_left _ (by omega)
    rw [← Nat.mul_assoc] at h1
    have h2 : g * (w + 1) ≤ (g + 1) * w := by rw [Nat.mul_add, Nat.add_mul]; omega
    have h3 : g * (w + 1) * P ≤ t * P := Nat.mul_le_mul_right _ (by omega)
    omega
theorem div_bounds (X P : Nat) (hP : 0 < P) : X / P * P ≤ X ∧ X < (X / P + 1) * P := by
  constructor
  · exact Nat.div_mul_le_self X P
  · rw [Nat.add_mul, Nat.one_mul]; exact Nat.lt_div_mul_add hP
theorem guess_lt {X V g : Nat} (h : X < g * V) : X / V < g := by
  refine Classical.byContradiction fun hc => ?_
  have h1 : g * V ≤ X / V * V := Nat.mul_le_mul_right _ (by omega)
  have := Nat.div_mul_le_self X V
  omega
theorem guess_ge {X V g : Nat} (hV : 0 < V) (h : g * V ≤ X) : g ≤ X / V := by
  rw [Nat.le_div_iff_mul_le hV]; exact h
/-- a shifted number, digit by digit -/
theorem unshift_digit (X i n : Nat) (hn : n ≤ 32) : (X / 4294967296 ^ i % (4294967296 * 4294967296)) / 2 ^ n % 4294967296 = X / 2 ^ n / 4294967296 ^ i % 4294967296 := by
  rw [Nat.div_div_eq_div_mul X (2 ^ n), Nat.mul_comm (2 ^ n), ← Nat.div_div_eq_div_mul]
  generalize X / 4294967296 ^ i = Y
  obtain ⟨m, hm⟩ : ∃ m, n + m = 32 := ⟨32 - n, by omega⟩
  have e : (4294967296 : Nat) = 2 ^ n * 2 ^ m := by rw [← Nat.pow_add, hm]
  have e1 : Y % (4294967296 * 4294967296) / 2 ^ n = Y / 2 ^ n % (2 ^ m * 4294967296) := by
    rw [show 4294967296 * 4294967296 = 2 ^ n * (2 ^ m * 4294967296) by rw [← Nat.mul_assoc, ← e]]
    rw [Nat.mod_mul_right_div_self]
  rw [e1, Nat.mod_mul_left_mod]
theorem mod_next (X i : Nat) : X % 4294967296 ^ (i + 1) = X % 4294967296 ^ i + 4294967296 ^ i * (X / 4294967296 ^ i % 4294967296) := by
  rw [Nat.pow_succ, Nat.mod_mul]
end Go.Fw
set_option linter.unusedSimpArgs false
set_option linter.unusedVariables false
namespace Go.Fw
open Go

def iV (g : Bool) (m : List UInt8) : Value := .agg #[.bool g, .string (bs m)]
def ival (g : Bool) (m : List UInt8) : Int := if g then -(valB m : Int) else (valB m : Int)
def mkI (z : Int) : Value := iV (decide (z < 0)) (digB z.natAbs)
def qV (g : Bool) (n d : List UInt8) : Value := .agg #[.bool g, .string (bs n), .string (bs d)]
def dval (d : List UInt8) : Nat := if valB d = 0 then 1 else valB d
def qval (g : Bool) (n d : List UInt8) : Rat := mkRat (ival g n) (dval d)
def denB (d : Nat) : List UInt8 := if d = 1 then [] else digB d
def mkQ (q : Rat) : Value := qV (decide (q.num < 0)) (digB q.num.natAbs) (denB q.den)
def zfit (z : Int) : Prop := Fit z.natAbs

theorem ival_abs (g : Bool) (m : List UInt8) : (ival g m).natAbs = valB m := by unfold ival; split <;> simp
theorem ival_mk (z : Int) : ival (decide (z < 0)) (digB z.natAbs) = z := by
  unfold ival
  rw [valB_dig]
  by_cases h : z < 0
  · simp only [h, decide_true, if_true]; omega
  · simp only [h, decide_false, Bool.false_eq_true, if_false]; omega
theorem iV_inj {g g' : Bool} {m m' : List UInt8} : iV g m = iV g' m' ↔ g = g' ∧ m = m' := by
  unfold iV
  constructor
  · intro h
    injection h with h
    injection h with h
    injection h with h1 h2
    injection h2 with h2 _
    injection h1 with h1
    injection h2 with h2
    exact ⟨h1, bs_inj.1 h2⟩
  · rintro ⟨rfl, rfl⟩; rfl
theorem mkI_inj {x y : Int} : mkI x = mkI y ↔ x = y := by
  constructor
  · intro h
    have ⟨h1, h2⟩ := iV_inj.1 h
    have e1 := ival_mk x
    have e2 := ival_mk y
    rw [h1, h2] at e1
    omega
  · rintro rfl; rfl
theorem dval_pos (d : List UInt8) : 0 < dval d := by unfold dval; split <;> omega
theorem dval_den {d : Nat} (h : d ≠ 0) : dval (denB d) = d := by
  unfold dval denB
  by_cases h1 : d = 1
  · subst h1; rfl
  · simp [h1, valB_dig, h]
theorem qval_mk (q : Rat) : qval (decide (q.num < 0)) (digB q.num.natAbs) (denB q.den) = q := by
  unfold qval
  rw [ival_mk, dval_den q.den_nz]
  exact Rat.mkRat_self q
/-- the result of a comparison -/
def sgn (z : Int) : Int := if z < 0 then -1 else if 0 < z then 1 else 0
end Go.Fw
