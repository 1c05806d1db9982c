/- Abstract memory: values, blocks, how they lie in a world, and the steps that keep that; Abstract operations: what each computes on abstract values and blocks; The machine's operations do what the abstract ones do; The machine's operations do what the abstract ones do: slicing, append, copy, arithmetic; The machine's operations do what the abstract ones do: copy, len, arithmetic, conversions; all together; Every abstract operation that is no call of a Go function, and the machine's; Abstract code: what a body does, by a predicate transformer; Abstract code and the machine's: one operation, operations in a row; A region whose order is open, taken in the text's order; A region whose order is open, taken in the text's order: the machine. Conditions: none. -/
import Derived.CallsIn
import Derived.Below
import Derived.OrdersIn
import Derived.LoopNIn
import Derived.Laws.StructEq
import Derived.WalkKit
import Derived.Laws.AppendOwn
import Derived.RangeFuncSeq
set_option linter.unusedSimpArgs false
set_option linter.unusedVariables false
namespace Go.Fw
open Go
structure Place where
  blk : Nat
  off : Nat
  ext : Nat
  esz : Nat
inductive Spot where
  | lies (p : Place)
  | dead
abbrev Inj := Nat → Option Spot
structure Blk where
  cells : List Value
  esz : Nat
  own : Bool
abbrev Heap := List Blk
def deadBlk : Blk := ⟨[], 0, false⟩
inductive VR (ρ : Inj) : Value → Value → Prop
  | bool (b : Bool) : VR ρ (.bool b) (.bool b)
  | int (k : IntKind) (n : Int) : VR ρ (.int k n) (.int k n)
  | str (s : ByteArray) : VR ρ (.string s) (.string s)
  | nilptr : VR ρ (.pointer none) (.pointer none)
  | nilslice : VR ρ (.slice none 0 0) (.slice none 0 0)
  | nilfunc : VR ρ .nilFunc .nilFunc
  | niliface : VR ρ .nilIface .nilIface
  | glob (g : Nat) : VR ρ (.pointer (some ⟨0, 0, some g⟩)) (.pointer (some ⟨g, 0, none⟩))
  | yield (l : Nat) : VR ρ (.func (.yield l) #[] #[]) (.func (.yield l) #[] #[])
  | ptr (b i : Nat) (p : Place) : ρ b = some (.lies p) → VR ρ (.pointer (some ⟨b, i, none⟩)) (.pointer (some ⟨p.blk, p.off + i, none⟩))
  | ptrDead (b i : Nat) (A : Addr) : ρ b = some .dead → VR ρ (.pointer (some ⟨b, i, none⟩)) (.pointer (some A))
  | slice (b i n c : Nat) (p : Place) (C : Nat) : ρ b = some (.lies p) → n ≤ C → (c = 0 ∨ C = c) → (c = 0 → i + C * p.esz ≤ p.ext) →
      VR ρ (.slice (some ⟨b, i, none⟩) n c) (.slice (some ⟨p.blk, p.off + i, none⟩) n C)
  | sliceNone (b i : Nat) (A : Addr) : ρ b ≠ none → VR ρ (.slice (some ⟨b, i, none⟩) 0 0) (.slice (some A) 0 0)
  | sliceDead (b i n c : Nat) (A : Addr) (C : Nat) : ρ b = some .dead → n ≤ C → (c = 0 ∨ C = c) → VR ρ (.slice (some ⟨b, i, none⟩) n c) (.slice (some A) n C)
  | func (f : FuncId) (x x' y y' : Array Value) (hx : x.size = x'.size) (hy : y.size = y'.size)
      (h : ∀ (i : Nat) (h1 : i < x.size) (h2 : i < x'.size), VR ρ x[i] x'[i]) (h' : ∀ (i : Nat) (h1 : i < y.size) (h2 : i < y'.size), VR ρ y[i] y'[i]) :
      VR ρ (.func (.func f) x y) (.func (.func f) x' y')
  | agg (x x' : Array Value) (hx : x.size = x'.size) (h : ∀ (i : Nat) (h1 : i < x.size) (h2 : i < x'.size), VR ρ x[i] x'[i]) : VR ρ (.agg x) (.agg x')
  | tuple (x x' : Array Value) (hx : x.size = x'.size) (h : ∀ (i : Nat) (h1 : i < x.size) (h2 : i < x'.size), VR ρ x[i] x'[i]) : VR ρ (.tuple x) (.tuple x')
def VRs (ρ : Inj) (x x' : Array Value) : Prop := x.size = x'.size ∧ ∀ (i : Nat) (h1 : i < x.size) (h2 : i < x'.size), VR ρ x[i] x'[i]
def VRl (ρ : Inj) (x x' : List Value) : Prop := x.length = x'.length ∧ ∀ (i : Nat) (h1 : i < x.length) (h2 : i < x'.length), VR ρ x[i] x'[i]
def Inj.Le (ρ ρ' : Inj) : Prop := ∀ b s, ρ b = some s → ρ' b = some s ∨ ρ' b = some .dead
theorem Inj.Le.refl (ρ : Inj) : ρ.Le ρ := fun _ _ h => .inl h
theorem Inj.Le.trans {a b c : Inj} (h : a.Le b) (k : b.Le c) : a.Le c := fun x s hs => by
  rcases h x s hs with h1 | h1
  · exact k x s h1
  · rcases k x _ h1 with h2 | h2 <;> exact .inr h2
theorem VR.mono {ρ ρ' : Inj} (hle : ρ.Le ρ') {v V : Value} (h : VR ρ v V) : VR ρ' v V := by
  induction h with
  | bool b => exact .bool b
  | int k n => exact .int k n
  | str s => exact .str s
  | nilptr => exact .nilptr
  | nilslice => exact .nilslice
  | nilfunc => exact .nilfunc
  | niliface => exact .niliface
  | glob g => exact .glob g
  | yield l => exact .yield l
  | ptr b i p hp =>
    rcases hle b _ hp with h | h
    · exact .ptr b i p h
    · exact .ptrDead b i _ h
  | ptrDead b i A hp =>
    rcases hle b _ hp with h | h <;> exact .ptrDead b i _ h
  | slice b i n c p C hp h1 h2 h3 =>
    rcases hle b _ hp with h | h
    · exact .slice b i n c p C h h1 h2 h3
    · exact .sliceDead b i n c _ C h h1 h2
  | sliceNone b i A hp =>
    refine .sliceNone b i A ?_
    cases hs : ρ b with
    | none => exact absurd hs hp
    | some s => rcases hle b s hs with h | h <;> simp [h]
  | sliceDead b i n c A C hp h1 h2 =>
    rcases hle b _ hp with h | h <;> exact .sliceDead b i n c _ C h h1 h2
  | func f x x' y y' hx hy h h' ih ih' => exact .func f x x' y y' hx hy ih ih'
  | agg x x' hx h ih => exact .agg x x' hx ih
  | tuple x x' hx h ih => exact .tuple x x' hx ih
theorem VR.cut {ρ ρ0 ρ' : Inj} {v V0 : Value} (h0 : VR ρ0 v V0) (hcut : ∀ b, ρ0 b ≠ none → ρ' b = ρ b) : ∀ {V : Value}, VR ρ v V → VR ρ' v V := by
  induction h0 with
  | bool b => intro V h; cases h; exact .bool b
  | int k n => intro V h; cases h; exact .int k n
  | str s => intro V h; cases h; exact .str s
  | nilptr => intro V h; cases h; exact .nilptr
  | nilslice => intro V h; cases h; exact .nilslice
  | nilfunc => intro V h; cases h; exact .nilfunc
  | niliface => intro V h; cases h; exact .niliface
  | glob g => intro V h; cases h; exact .glob g
  | yield l => intro V h; cases h; exact .yield l
  | ptr b i p hp =>
    intro V h
    have e := hcut b (by simp [hp])
    cases h with
    | ptr _ _ q hq => exact .ptr b i q (by rw [e]; exact hq)
    | ptrDead _ _ A hq => exact .ptrDead b i A (by rw [e]; exact hq)
  | ptrDead b i A hp =>
    intro V h
    have e := hcut b (by simp [hp])
    cases h with
    | ptr _ _ q hq => exact .ptr b i q (by rw [e]; exact hq)
    | ptrDead _ _ A hq => exact .ptrDead b i A (by rw [e]; exact hq)
  | slice b i n c p C hp h1 h2 h3 =>
    intro V h
    have e := hcut b (by simp [hp])
    cases h with
    | slice _ _ _ _ q C' hq k1 k2 k3 => exact .slice b i n c q C' (by rw [e]; exact hq) k1 k2 k3
    | sliceNone _ _ A hq => exact .sliceNone b i A (by rw [e]; exact hq)
    | sliceDead _ _ _ _ A C' hq k1 k2 => exact .sliceDead b i n c A C' (by rw [e]; exact hq) k1 k2
  | sliceNone b i A hp =>
    intro V h
    have e := hcut b hp
    cases h with
    | slice _ _ _ _ q C' hq k1 k2 k3 => exact .slice b i 0 0 q C' (by rw [e]; exact hq) k1 k2 k3
    | sliceNone _ _ A hq => exact .sliceNone b i A (by rw [e]; exact hq)
    | sliceDead _ _ _ _ A C' hq k1 k2 => exact .sliceDead b i 0 0 A C' (by rw [e]; exact hq) k1 k2
  | sliceDead b i n c A C hp h1 h2 =>
    intro V h
    have e := hcut b (by simp [hp])
    cases h with
    | slice _ _ _ _ q C' hq k1 k2 k3 => exact .slice b i n c q C' (by rw [e]; exact hq) k1 k2 k3
    | sliceNone _ _ A hq => exact .sliceNone b i A (by rw [e]; exact hq)
    | sliceDead _ _ _ _ A C' hq k1 k2 => exact .sliceDead b i n c A C' (by rw [e]; exact hq) k1 k2
  | func f x x' y y' hx hy h h' ih ih' =>
    intro V hv
    cases hv with
    | func _ _ z _ u hz hu k k' =>
      exact .func f x z y u hz hu (fun i h1 h2 => ih i h1 (hx ▸ h1) (k i h1 h2)) (fun i h1 h2 => ih' i h1 (hy ▸ h1) (k' i h1 h2))
  | agg x x' hx h ih =>
    intro V hv
    cases hv with
    | agg _ z hz k => exact .agg x z hz (fun i h1 h2 => ih i h1 (hx ▸ h1) (k i h1 h2))
  | tuple x x' hx h ih =>
    intro V hv
    cases hv with
    | tuple _ z hz k => exact .tuple x z hz (fun i h1 h2 => ih i h1 (hx ▸ h1) (k i h1 h2))
theorem VRs.mono {ρ ρ' : Inj} (hle : ρ.Le ρ') {x x' : Array Value} (h : VRs ρ x x') : VRs ρ' x x' := ⟨h.1, fun i h1 h2 => (h.2 i h1 h2).mono hle⟩
def isCell : Value → Bool
  | .agg _ => false
  | .tuple _ => false
  | _ => true
theorem VR.isCell {ρ : Inj} {v V : Value} (h : VR ρ v V) : isCell V = isCell v := by cases h <;> rfl
def plain : Value → Bool
  | .bool _ | .int _ _ | .string _ | .pointer none | .slice none 0 0 | .nilFunc | .nilIface => true
  | _ => false
theorem VR.undef (ρ : Inj) : VR ρ undef undef := .tuple _ _ rfl (fun i h _ => by simp at h)
structure Lies (ρ : Inj) (B : Blk) (p : Place) (W : World) : Prop where
  old : p.blk < W.heap.size
  esz : p.esz = B.esz
  pos : 0 < B.esz
  len : B.cells.length ≤ p.ext
  cell : ∀ (i : Nat) (v : Value), B.cells[i]? = some v → ∃ V, W.cell? ⟨p.blk, p.off + i, none⟩ = some V ∧ VR ρ v V
  mine : B.own = true → ∀ i, i < p.ext → (∃ V, W.cell? ⟨p.blk, p.off + i, none⟩ = some V) ∧ W.frozen? ⟨p.blk, p.off + i, none⟩ = false
  /-- behind its cells nothing but plain values; nothing frozen -/
  spare : B.own = true → ∀ i V, B.cells.length ≤ i → i < p.ext → W.cell? ⟨p.blk, p.off + i, none⟩ = some V → plain V = true
  hot : B.own = true → ∀ i, W.frozen? ⟨p.blk, i, none⟩ = false
structure Mem (ρ : Inj) (H : Heap) (W : World) : Prop where
  dom : ∀ b, ρ b ≠ none → b < H.length
  gone : ∀ b, ρ b = some .dead → H[b]? = some deadBlk
  lies : ∀ b p, ρ b = some (.lies p) → ∃ B, H[b]? = some B ∧ Lies ρ B p W
  apart : ∀ b b' p p' B, b ≠ b' → ρ b = some (.lies p) → ρ b' = some (.lies p') → H[b]? = some B → B.own = true → p.blk ≠ p'.blk
def Owned (ρ : Inj) (H : Heap) (k : Nat) : Prop := ∃ b p B, ρ b = some (.lies p) ∧ H[b]? = some B ∧ B.own = true ∧ p.blk = k
structure Frame (ρ : Inj) (H : Heap) (W W' : World) : Prop where
  os : W'.os = W.os
  tape : W'.tape = W.tape
  output : W'.output = W.output
  size : W.heap.size ≤ W'.heap.size
  block : ∀ k, k < W.heap.size → ¬ Owned ρ H k → W'.heap[k]? = W.heap[k]?
structure Step (ρ : Inj) (H : Heap) (W : World) (ρ' : Inj) (H' : Heap) (W' : World) : Prop where
  mem : Mem ρ' H' W'
  len : H.length ≤ H'.length
  le : ρ.Le ρ'
  fresh : ∀ b, b < H.length → ρ b = none → ρ' b = none
  placed : ∀ b p B', ρ' b = some (.lies p) → H'[b]? = some B' → p.blk < W.heap.size → ∃ b0 p0 B0, ρ b0 = some (.lies p0) ∧ H[b0]? = some B0 ∧ p0.blk = p.blk ∧ (B'.own = true → B0.own = true)
  frame : Frame ρ H W W'
theorem Step.owned {ρ ρ' : Inj} {H H' : Heap} {W W' : World} (s : Step ρ H W ρ' H' W') : ∀ k, k < W.heap.size → Owned ρ' H' k → Owned ρ H k := by
  rintro k hk ⟨b, p, B, hb, hB, ho, rfl⟩
  obtain ⟨b0, p0, B0, h0, hB0, e, h1⟩ := s.placed b p B hb hB hk
  exact ⟨b0, p0, B0, h0, hB0, h1 ho, e⟩
theorem Step.refl {ρ : Inj} {H : Heap} {W : World} (h : Mem ρ H W) : Step ρ H W ρ H W :=
  ⟨h, Nat.le_refl _, .refl _, fun _ _ h => h, fun b p B h1 h2 _ => ⟨b, p, B, h1, h2, rfl, id⟩, ⟨rfl, rfl, rfl, Nat.le_refl _, fun _ _ _ => rfl⟩⟩
theorem Step.trans {ρ ρ1 ρ2 : Inj} {H H1 H2 : Heap} {W W1 W2 : World} (s : Step ρ H W ρ1 H1 W1) (t : Step ρ1 H1 W1 ρ2 H2 W2) : Step ρ H W ρ2 H2 W2 where
  mem := t.mem
  len := Nat.le_trans s.len t.len
  le := s.le.trans t.le
  fresh b hb h0 := t.fresh b (Nat.lt_of_lt_of_le hb s.len) (s.fresh b hb h0)
  placed b p B h1 h2 hk := by
    obtain ⟨b1, p1, B1, g1, g2, e1, o1⟩ := t.placed b p B h1 h2 (Nat.lt_of_lt_of_le hk s.frame.size)
    obtain ⟨b0, p0, B0, k1, k2, e0, o0⟩ := s.placed b1 p1 B1 g1 g2 (by omega)
    exact ⟨b0, p0, B0, k1, k2, by omega, fun h => o0 (o1 h)⟩
  frame := {
    os := t.frame.os.trans s.frame.os
    tape := t.frame.tape.trans s.frame.tape
    output := t.frame.output.trans s.frame.output
    size := Nat.le_trans s.frame.size t.frame.size
    block := fun k hk hn => (t.frame.block k (Nat.lt_of_lt_of_le hk s.frame.size) (fun h => hn (s.owned k hk h))).trans (s.frame.block k hk hn) }
theorem Mem.heap {ρ : Inj} {H : Heap} {W W' : World} (h : Mem ρ H W) (e : W'.heap = W.heap) : Mem ρ H W' := by
  have hc : ∀ a, W'.cell? a = W.cell? a := fun a => by simp [World.cell?, e]
  have hf : ∀ a, W'.frozen? a = W.frozen? a := fun a => by simp [World.frozen?, e]
  refine ⟨h.dom, h.gone, fun b p hb => ?_, h.apart⟩
  obtain ⟨B, hB, l⟩ := h.lies b p hb
  exact ⟨B, hB, ⟨by rw [e]; exact l.old, l.esz, l.pos, l.len, fun i v hv => by rw [hc]; exact l.cell i v hv, fun ho i hi => by rw [hc, hf]; exact l.mine ho i hi, fun ho i V h1 h2 h3 => l.spare ho i V h1 h2 (by rw [← hc]; exact h3), fun ho i => by rw [hf]; exact l.hot ho i⟩⟩
theorem Step.same {ρ : Inj} {H : Heap} {W W' : World} (h : Mem ρ H W) (e : W'.heap = W.heap) (e1 : W'.os = W.os) (e2 : W'.tape = W.tape) (e3 : W'.output = W.output) :
    Step ρ H W ρ H W' :=
  ⟨h.heap e, Nat.le_refl _, .refl _, fun _ _ h => h, fun b p B h1 h2 _ => ⟨b, p, B, h1, h2, rfl, id⟩, ⟨e1, e2, e3, by rw [e]; exact Nat.le_refl _, fun _ _ _ => by rw [e]⟩⟩
theorem cell_old {W : World} {o : Obj} {a : Addr} (h : a.block < W.heap.size) : (World.cell? { W with heap := W.heap.push o } a) = W.cell? a := by
  simp only [World.cell?, Array.getElem?_push]
  rw [if_neg (by omega)]
theorem frozen_old {W : World} {o : Obj} {a : Addr} (h : a.block < W.heap.size) : (World.frozen? { W with heap := W.heap.push o } a) = W.frozen? a := by
  simp only [World.frozen?, Array.getElem?_push]
  rw [if_neg (by omega)]
def Inj.put (ρ : Inj) (b : Nat) (s : Spot) : Inj := fun x => if x = b then some s else ρ x
theorem Inj.put_same (ρ : Inj) (b : Nat) (s : Spot) : ρ.put b s b = some s := by simp [Inj.put]
theorem Inj.put_other (ρ : Inj) {b x : Nat} (s : Spot) (h : x ≠ b) : ρ.put b s x = ρ x := by simp [Inj.put, h]
theorem Inj.le_put {ρ : Inj} {b : Nat} {s : Spot} (h : ρ b = none) : ρ.Le (ρ.put b s) := fun x t hx => by
  by_cases e : x = b
  · subst e; rw [h] at hx; cases hx
  · exact .inl (by rw [ρ.put_other s e]; exact hx)
theorem Mem.none_at {ρ : Inj} {H : Heap} {W : World} (h : Mem ρ H W) {b : Nat} (hb : H.length ≤ b) : ρ b = none := by
  cases e : ρ b with
  | none => rfl
  | some s => exact absurd (h.dom b (by simp [e])) (by omega)
theorem Step.alloc {ρ : Inj} {H : Heap} {W : World} (h : Mem ρ H W) (B : Blk) (cs : Array Value) (e : TypeId) (hpos : 0 < B.esz)
    (hlen : B.cells.length ≤ cs.size) (hc : ∀ (i : Nat) (v : Value), B.cells[i]? = some v → ∃ V, cs[i]? = some V ∧ VR ρ v V) (hsp : ∀ i V, B.cells.length ≤ i → cs[i]? = some V → plain V = true) :
    Step ρ H W (ρ.put H.length (.lies ⟨W.heap.size, 0, cs.size, B.esz⟩)) (H ++ [B]) { W with heap := W.heap.push (.cells cs e) } := by
  have h0 : ρ H.length = none := h.none_at (Nat.le_refl _)
  have hle := Inj.le_put (s := .lies ⟨W.heap.size, 0, cs.size, B.esz⟩) h0
  have hold : ∀ b, ρ b ≠ none → b ≠ H.length := fun b hb e => hb (e ▸ h0)
  have hcell : ∀ i, World.cell? { W with heap := W.heap.push (.cells cs e) } ⟨W.heap.size, 0 + i, none⟩ = cs[i]? := fun i => by
    simp [World.cell?]
  have hfroz : ∀ i, World.frozen? { W with heap := W.heap.push (.cells cs e) } ⟨W.heap.size, 0 + i, none⟩ = false := fun i => by
    simp [World.frozen?]
  have hfroz2 : ∀ i, World.frozen? { W with heap := W.heap.push (.cells cs e) } ⟨W.heap.size, i, none⟩ = false := fun i => by
    simp [World.frozen?]
  constructor
  · constructor
    · intro b hb
      by_cases e : b = H.length
      · subst e; simp
      · rw [Inj.put_other _ _ e] at hb
        have := h.dom b hb; simp; omega
    · intro b hb
      by_cases e : b = H.length
      · subst e; rw [Inj.put_same] at hb; cases hb
      · rw [Inj.put_other _ _ e] at hb
        have := h.gone b hb
        rw [List.getElem?_append_left (h.dom b (by simp [hb]))]; exact this
    · intro b p hb
      by_cases e' : b = H.length
      · subst e'; rw [Inj.put_same] at hb; cases hb
        refine ⟨B, by simp, ⟨by simp, rfl, hpos, hlen, ?_, ?_, fun _ i V h1 _ h3 => hsp i V h1 (by rw [hcell] at h3; exact h3), fun _ i => hfroz2 i⟩⟩
        · intro i v hv
          obtain ⟨V, hV, r⟩ := hc i v hv
          exact ⟨V, by rw [hcell]; exact hV, r.mono hle⟩
        · intro _ i hi
          refine ⟨⟨cs[i], ?_⟩, hfroz i⟩
          rw [hcell]; simp
      · rw [Inj.put_other _ _ e'] at hb
        obtain ⟨B', hB, l⟩ := h.lies b p hb
        refine ⟨B', by rw [List.getElem?_append_left (h.dom b (by simp [hb]))]; exact hB, ⟨by simp; have := l.old; omega, l.esz, l.pos, l.len, ?_, ?_, fun ho i V h1 h2 h3 => l.spare ho i V h1 h2 (by rw [cell_old l.old] at h3; exact h3), fun ho i => by rw [frozen_old l.old]; exact l.hot ho i⟩⟩
        · intro i v hv
          obtain ⟨V, hV, r⟩ := l.cell i v hv
          exact ⟨V, by rw [cell_old l.old]; exact hV, r.mono hle⟩
        · intro ho i hi
          rw [cell_old l.old, frozen_old l.old]; exact l.mine ho i hi
    · intro b b' p p' B' hne hb hb' hB ho
      by_cases e : b = H.length
      · subst e; rw [Inj.put_same] at hb; cases hb
        rw [Inj.put_other _ _ (Ne.symm hne)] at hb'
        obtain ⟨_, _, l⟩ := h.lies b' p' hb'
        have := l.old; dsimp; omega
      · rw [Inj.put_other _ _ e] at hb
        by_cases e' : b' = H.length
        · subst e'; rw [Inj.put_same] at hb'; cases hb'
          obtain ⟨_, _, l⟩ := h.lies b p hb
          have := l.old; dsimp; omega
        · rw [Inj.put_other _ _ e'] at hb'
          rw [List.getElem?_append_left (h.dom b (by simp [hb]))] at hB
          exact h.apart b b' p p' B' hne hb hb' hB ho
  · simp
  · exact hle
  · intro b hb hn
    rw [Inj.put_other _ _ (by omega)]; exact hn
  · intro b p B' hb hB hk
    by_cases e : b = H.length
    · subst e; rw [Inj.put_same] at hb; cases hb; simp at hk
    · rw [Inj.put_other _ _ e] at hb
      rw [List.getElem?_append_left (h.dom b (by simp [hb]))] at hB
      exact ⟨b, p, B', hb, hB, rfl, id⟩
  · exact ⟨rfl, rfl, rfl, by simp, fun k hk _ => by simp only [Array.getElem?_push]; rw [if_neg (by omega)]⟩
theorem Addr.add_mk (k o n : Nat) : Addr.add ⟨k, o, none⟩ n = ⟨k, o + n, none⟩ := by
  unfold Addr.add
  by_cases h : n = 0
  · subst h; simp
  · simp [h]
theorem cell_set_same {W : World} {k o : Nat} {V U : Value} (h : W.cell? ⟨k, o, none⟩ = some U) : (W.setCell ⟨k, o, none⟩ V).cell? ⟨k, o, none⟩ = some V := by
  simp only [World.cell?, World.setCell, Array.getElem?_modify] at *
  cases e : W.heap[k]? with
  | none => simp [e] at h
  | some x =>
    cases x <;> simp_all
    rw [Array.getElem?_setIfInBounds, if_pos rfl, if_pos (Array.getElem?_eq_some_iff.1 h).1]
theorem cell_set_ne {W : World} {k o k' o' : Nat} {V : Value} (h : ¬ (k' = k ∧ o' = o)) : (W.setCell ⟨k, o, none⟩ V).cell? ⟨k', o', none⟩ = W.cell? ⟨k', o', none⟩ := by
  simp only [World.cell?, World.setCell, Array.getElem?_modify]
  by_cases e : k = k'
  · subst e
    cases e : W.heap[k]? with
    | none => simp
    | some x =>
      cases x <;> simp
      rw [Array.getElem?_setIfInBounds_ne (by omega)]
  · simp [e]
theorem frozen_set {W : World} {a a' : Addr} {V : Value} : (W.setCell a V).frozen? a' = W.frozen? a' := by
  simp only [World.frozen?, World.setCell, Array.getElem?_modify]
  by_cases e : a.block = a'.block
  · rw [if_pos e]
    cases e : W.heap[a'.block]? with
    | none => simp
    | some x => cases x <;> simp
  · simp [e]
theorem heap_set_ne {W : World} {a : Addr} {V : Value} {k : Nat} (h : a.block ≠ k) : (W.setCell a V).heap[k]? = W.heap[k]? := by
  simp only [World.setCell, Array.getElem?_modify]; rw [if_neg h]
def splice (xs : List Value) (k : Nat) (vs : List Value) : List Value := xs.take k ++ vs ++ xs.drop (k + vs.length)
theorem splice_nil (xs : List Value) (k : Nat) : splice xs k [] = xs := by simp [splice]
theorem splice_at (xs : List Value) (k : Nat) (vs : List Value) (h : k ≤ xs.length) (i : Nat) :
    (splice xs k vs)[i]? = if i < k then xs[i]? else if i < k + vs.length then vs[i - k]? else xs[i]? := by
  unfold splice
  have h1 : (List.take k xs).length = k := by simp; omega
  rw [List.append_assoc]
  by_cases hl : i < k
  · rw [if_pos hl, List.getElem?_append_left (by omega), List.getElem?_take_of_lt hl]
  · rw [if_neg hl, List.getElem?_append_right (by omega), h1]
    by_cases hm : i < k + vs.length
    · rw [if_pos hm, List.getElem?_append_left (by omega)]
    · rw [if_neg hm, List.getElem?_append_right (by omega), List.getElem?_drop]
      congr 1; omega
theorem splice_length (xs : List Value) (k : Nat) (vs : List Value) (h : k ≤ xs.length) : (splice xs k vs).length = max xs.length (k + vs.length) := by
  unfold splice; simp; omega
theorem splice_get (xs : List Value) (k : Nat) (v : Value) (h : k ≤ xs.length) (i : Nat) : (splice xs k [v])[i]? = if i = k then some v else xs[i]? := by
  rw [splice_at _ _ _ h]
  by_cases e : i = k
  · subst e; simp
  · rw [if_neg e]
    by_cases hl : i < k
    · rw [if_pos hl]
    · rw [if_neg hl, if_neg (by simp; omega)]
theorem splice_cons (xs : List Value) (k : Nat) (v : Value) (vs : List Value) (h : k ≤ xs.length) : splice xs k (v :: vs) = splice (splice xs k [v]) (k + 1) vs := by
  apply List.ext_getElem?
  intro i
  rw [splice_at _ _ _ h, splice_at _ _ _ (by rw [splice_length _ _ _ h]; simp; omega), splice_get _ _ _ h]
  by_cases e : i = k
  · subst e; simp
  · by_cases hl : i < k
    · have h1 : i < k + 1 := by omega
      simp only [if_pos hl, if_pos h1, if_neg e]
    · have h1 : ¬ i < k + 1 := by omega
      simp only [if_neg hl, if_neg h1, if_neg e]
      by_cases hm : i < k + (v :: vs).length
      · have h2 : i < k + 1 + vs.length := by simp at hm; omega
        simp only [if_pos hm, if_pos h2]
        obtain ⟨m, rfl⟩ : ∃ m, i = k + (m + 1) := ⟨i - k - 1, by omega⟩
        have e1 : k + (m + 1) - k = m + 1 := by omega
        have e2 : k + (m + 1) - (k + 1) = m := by omega
        rw [e1, e2]; simp
      · have h2 : ¬ i < k + 1 + vs.length := by simp at hm; omega
        simp only [if_neg hm, if_neg h2]
theorem Step.put {ρ : Inj} {H : Heap} {W : World} (h : Mem ρ H W) {b i : Nat} {p : Place} {B : Blk} {v V : Value} (hb : ρ b = some (.lies p)) (hB : H[b]? = some B)
    (ho : B.own = true) (hi : i ≤ B.cells.length) (hx : i < p.ext) (hv : VR ρ v V) :
    Step ρ H W ρ (H.set b { B with cells := splice B.cells i [v] }) (W.setCell ⟨p.blk, p.off + i, none⟩ V) := by
  have hbl : b < H.length := h.dom b (by simp [hb])
  obtain ⟨B0, hB0, l⟩ := h.lies b p hb
  obtain rfl : B0 = B := by rw [hB] at hB0; exact (Option.some.inj hB0).symm
  have hne : ∀ b' p', b' ≠ b → ρ b' = some (.lies p') → p.blk ≠ p'.blk := fun b' p' e hb' => h.apart b b' p p' B0 (Ne.symm e) hb hb' hB ho
  have hsz : (W.setCell ⟨p.blk, p.off + i, none⟩ V).heap.size = W.heap.size := by simp [World.setCell]
  constructor
  · constructor
    · intro b' hb'; simp; exact h.dom b' hb'
    · intro b' hb'
      have e : b' ≠ b := fun e => by subst e; rw [hb] at hb'; cases hb'
      rw [List.getElem?_set_ne (Ne.symm e)]; exact h.gone b' hb'
    · intro b' p' hb'
      by_cases e : b' = b
      · subst e
        obtain rfl : p = p' := by rw [hb] at hb'; cases hb'; rfl
        refine ⟨{ B0 with cells := splice B0.cells i [v] }, by simp [hbl], ⟨by rw [hsz]; exact l.old, l.esz, l.pos, ?_, ?_, ?_, fun _ j U h1 h2 h3 => ?_, fun _ j => by rw [frozen_set]; exact l.hot ho j⟩⟩
        case refine_4 =>
          have h1 : (splice B0.cells i [v]).length ≤ j := h1
          rw [splice_length _ _ _ hi] at h1
          simp only [List.length_cons, List.length_nil] at h1
          rw [cell_set_ne (by omega)] at h3
          exact l.spare ho j U (by omega) h2 h3
        · rw [splice_length _ _ _ hi]; have := l.len; simp; omega
        · intro j u hj
          simp only [splice_get _ _ _ hi] at hj
          by_cases ej : j = i
          · subst ej
            simp at hj; subst hj
            obtain ⟨⟨U, hU⟩, _⟩ := l.mine ho j hx
            exact ⟨V, cell_set_same hU, hv⟩
          · rw [if_neg ej] at hj
            obtain ⟨U, hU, r⟩ := l.cell j u hj
            exact ⟨U, by rw [cell_set_ne (by omega)]; exact hU, r⟩
        · intro _ j hj
          obtain ⟨⟨U, hU⟩, hf⟩ := l.mine ho j hj
          refine ⟨?_, by rw [frozen_set]; exact hf⟩
          by_cases ej : j = i
          · subst ej; exact ⟨V, cell_set_same hU⟩
          · exact ⟨U, by rw [cell_set_ne (by omega)]; exact hU⟩
      · obtain ⟨B', hB', l'⟩ := h.lies b' p' hb'
        have hd := hne b' p' e hb'
        refine ⟨B', by rw [List.getElem?_set_ne (Ne.symm e)]; exact hB', ⟨by rw [hsz]; exact l'.old, l'.esz, l'.pos, l'.len, ?_, ?_, fun ho' j U h1 h2 h3 => l'.spare ho' j U h1 h2 (by rw [cell_set_ne (by omega)] at h3; exact h3), fun ho' j => by rw [frozen_set]; exact l'.hot ho' j⟩⟩
        · intro j u hj
          obtain ⟨U, hU, r⟩ := l'.cell j u hj
          exact ⟨U, by rw [cell_set_ne (by omega)]; exact hU, r⟩
        · intro ho' j hj
          rw [cell_set_ne (by omega), frozen_set]; exact l'.mine ho' j hj
    · intro b1 b2 p1 p2 B1 hne' h1 h2 hB1 ho1
      by_cases e : b1 = b
      · subst e
        rw [List.getElem?_set_self hbl] at hB1
        exact h.apart b1 b2 p1 p2 B0 hne' h1 h2 hB ho
      · rw [List.getElem?_set_ne (Ne.symm e)] at hB1
        exact h.apart b1 b2 p1 p2 B1 hne' h1 h2 hB1 ho1
  · simp
  · exact .refl _
  · exact fun _ _ h => h
  · intro b1 p1 B1 h1 hB1 _
    by_cases e : b1 = b
    · subst e; exact ⟨b1, p1, B0, h1, hB, rfl, fun _ => ho⟩
    · rw [List.getElem?_set_ne (Ne.symm e)] at hB1
      exact ⟨b1, p1, B1, h1, hB1, rfl, id⟩
  · refine ⟨rfl, rfl, rfl, by rw [hsz]; exact Nat.le_refl _, fun k hk hn => heap_set_ne (fun e => hn ⟨b, p, B0, hb, hB, ho, e⟩)⟩
theorem Step.write {P : Program} {ρ : Inj} {b i0 : Nat} {p : Place} (hb : ρ b = some (.lies p)) : ∀ (vs Vs : List Value) (j : Nat) {H : Heap} {W : World} {B : Blk}, Mem ρ H W → H[b]? = some B →
    B.own = true → i0 + j ≤ B.cells.length → i0 + j + vs.length ≤ p.ext → vs.length = Vs.length → (∀ (k : Nat) (h1 : k < vs.length) (h2 : k < Vs.length), VR ρ vs[k] Vs[k] ∧ isCell vs[k] = true) →
    ∃ W', (storeCells ⟨p.blk, p.off + i0, none⟩ Vs j).run P W = .ok () W' ∧ Step ρ H W ρ (H.set b { B with cells := splice B.cells (i0 + j) vs }) W' := by
  intro vs
  induction vs with
  | nil =>
    intro Vs j H W B h hB ho hi hx hl hv
    cases Vs with
    | cons _ _ => simp at hl
    | nil =>
      refine ⟨W, rfl, ?_⟩
      rw [splice_nil]
      have : H.set b { B with cells := B.cells } = H := by
        apply List.ext_getElem?
        intro k
        by_cases e : k = b
        · subst e; rw [List.getElem?_set_self (h.dom k (by simp [hb]))]; exact hB.symm
        · rw [List.getElem?_set_ne (Ne.symm e)]
      rw [this]; exact .refl h
  | cons v vs ih =>
    intro Vs j H W B h hB ho hi hx hl hv
    cases Vs with
    | nil => simp at hl
    | cons V Vs =>
      simp at hx hl
      obtain ⟨r, rc⟩ := hv 0 (by simp) (by simp)
      simp at r rc
      have s1 := Step.put h (i := i0 + j) (v := v) (V := V) hb hB ho hi (by omega) r
      have hbl : b < H.length := h.dom b (by simp [hb])
      obtain ⟨W', hrun, s2⟩ := ih Vs (j + 1) (H := H.set b { B with cells := splice B.cells (i0 + j) [v] }) (W := W.setCell ⟨p.blk, p.off + (i0 + j), none⟩ V) (B := { B with cells := splice B.cells (i0 + j) [v] })
        s1.mem (by simp [hbl]) ho (by show _ ≤ (splice B.cells (i0 + j) [v]).length; rw [splice_length _ _ _ hi]; simp; omega) (by omega) hl
        (fun k h1 h2 => by have := hv (k + 1) (by simp; omega) (by simp; omega); simpa using this)
      refine ⟨W', ?_, ?_⟩
      · obtain ⟨B0, hB0, l⟩ := h.lies b p hb
        obtain rfl : B0 = B := by rw [hB] at hB0; exact (Option.some.inj hB0).symm
        obtain ⟨⟨U, hU⟩, hf⟩ := l.mine ho (i0 + j) (by omega)
        have ha : Addr.add ⟨p.blk, p.off + i0, none⟩ j = ⟨p.blk, p.off + (i0 + j), none⟩ := by rw [Addr.add_mk]; simp <;> omega
        have hc : isCell V = true := by rw [r.isCell]; exact rc
        show Sem.run P (Sem.bind (store (Addr.add ⟨p.blk, p.off + i0, none⟩ j) V) fun _ => storeCells ⟨p.blk, p.off + i0, none⟩ Vs (j + 1)) W = _
        rw [ha]
        have : Sem.run P (Sem.bind (store ⟨p.blk, p.off + (i0 + j), none⟩ V) fun _ => storeCells ⟨p.blk, p.off + i0, none⟩ Vs (j + 1)) W =
            Sem.run P (storeCells ⟨p.blk, p.off + i0, none⟩ Vs (j + 1)) (W.setCell ⟨p.blk, p.off + (i0 + j), none⟩ V) := by
          cases V <;> first | (simp [isCell] at hc; done) | (simp [store, Sem.bind, Sem.run, hU, hf])
        rw [this]; exact hrun
      · have := s1.trans s2
        rw [List.set_set] at this
        rw [splice_cons _ _ _ _ hi]
        exact this
theorem Inj.le_kill (ρ : Inj) (b : Nat) : ρ.Le (ρ.put b .dead) := fun x t hx => by
  by_cases e : x = b
  · subst e; exact .inr (ρ.put_same x _)
  · exact .inl (by rw [ρ.put_other _ e]; exact hx)
theorem Step.kill {ρ : Inj} {H : Heap} {W : World} (h : Mem ρ H W) {b : Nat} {p : Place} (hb : ρ b = some (.lies p)) :
    Step ρ H W (ρ.put b .dead) (H.set b deadBlk) W := by
  have hbl : b < H.length := h.dom b (by simp [hb])
  have hle := Inj.le_kill ρ b
  constructor
  · constructor
    · intro x hx
      simp
      by_cases e : x = b
      · subst e; exact hbl
      · rw [Inj.put_other _ _ e] at hx; exact h.dom x hx
    · intro x hx
      by_cases e : x = b
      · subst e; rw [List.getElem?_set_self hbl]
      · rw [Inj.put_other _ _ e] at hx
        rw [List.getElem?_set_ne (Ne.symm e)]; exact h.gone x hx
    · intro x q hx
      by_cases e : x = b
      · subst e; rw [Inj.put_same] at hx; cases hx
      · rw [Inj.put_other _ _ e] at hx
        obtain ⟨B, hB, l⟩ := h.lies x q hx
        exact ⟨B, by rw [List.getElem?_set_ne (Ne.symm e)]; exact hB, ⟨l.old, l.esz, l.pos, l.len, fun i v hv => let ⟨V, h1, h2⟩ := l.cell i v hv; ⟨V, h1, h2.mono hle⟩, l.mine, l.spare, l.hot⟩⟩
    · intro x y q q' B hne hx hy hB ho
      by_cases e : x = b
      · subst e; rw [Inj.put_same] at hx; cases hx
      · rw [Inj.put_other _ _ e] at hx
        by_cases e' : y = b
        · subst e'; rw [Inj.put_same] at hy; cases hy
        · rw [Inj.put_other _ _ e'] at hy
          rw [List.getElem?_set_ne (Ne.symm e)] at hB
          exact h.apart x y q q' B hne hx hy hB ho
  · simp
  · exact hle
  · intro x hx hn
    by_cases e : x = b
    · subst e; rw [hb] at hn; cases hn
    · rw [Inj.put_other _ _ e]; exact hn
  · intro x q B hx hB _
    by_cases e : x = b
    · subst e; rw [Inj.put_same] at hx; cases hx
    · rw [Inj.put_other _ _ e] at hx
      rw [List.getElem?_set_ne (Ne.symm e)] at hB
      exact ⟨x, q, B, hx, hB, rfl, id⟩
  · exact ⟨rfl, rfl, rfl, Nat.le_refl _, fun _ _ _ => rfl⟩
theorem drop_take_get (xs : List Value) (i m j : Nat) : ((xs.drop i).take m)[j]? = if j < m then xs[i + j]? else none := by
  by_cases h : j < m
  · rw [if_pos h, List.getElem?_take_of_lt h, List.getElem?_drop]
  · rw [if_neg h, List.getElem?_take_eq_none (by omega)]
theorem Step.retarget {ρ : Inj} {H : Heap} {W : World} (h : Mem ρ H W) {b i m : Nat} {p : Place} {B : Blk} (hb : ρ b = some (.lies p)) (hB : H[b]? = some B) (ho : B.own = true)
    (hm : i + m ≤ B.cells.length) (hpl : (B.cells.drop (i + m)).all plain = true) (hplain : ∀ v V, plain v = true → VR ρ v V → plain V = true) :
    Step ρ H W ((ρ.put b .dead).put H.length (.lies ⟨p.blk, p.off + i, p.ext - i, p.esz⟩)) (H.set b deadBlk ++ [⟨(B.cells.drop i).take m, B.esz, true⟩]) W := by
  have hbl : b < H.length := h.dom b (by simp [hb])
  have h0 : ρ H.length = none := h.none_at (Nat.le_refl _)
  have hd0 : (ρ.put b .dead) H.length = none := by rw [Inj.put_other _ _ (by omega)]; exact h0
  have hle : ρ.Le ((ρ.put b .dead).put H.length (.lies ⟨p.blk, p.off + i, p.ext - i, p.esz⟩)) := (Inj.le_kill ρ b).trans (Inj.le_put hd0)
  obtain ⟨B0, hB0, l⟩ := h.lies b p hb
  obtain rfl : B0 = B := by rw [hB] at hB0; exact (Option.some.inj hB0).symm
  have hlen := l.len
  have hget : ∀ x, x ≠ b → x < H.length → (H.set b deadBlk ++ [(⟨(B0.cells.drop i).take m, B0.esz, true⟩ : Blk)])[x]? = H[x]? := fun x e hx => by
    rw [List.getElem?_append_left (by simpa using hx), List.getElem?_set_ne (Ne.symm e)]
  have hnew : (H.set b deadBlk ++ [(⟨(B0.cells.drop i).take m, B0.esz, true⟩ : Blk)])[H.length]? = some ⟨(B0.cells.drop i).take m, B0.esz, true⟩ := by
    rw [List.getElem?_append_right (by simp)]; simp
  have hput : ∀ x, x ≠ b → x ≠ H.length → ((ρ.put b .dead).put H.length (.lies ⟨p.blk, p.off + i, p.ext - i, p.esz⟩)) x = ρ x := fun x e e' => by
    rw [Inj.put_other _ _ e', Inj.put_other _ _ e]
  have hputb : ((ρ.put b .dead).put H.length (.lies ⟨p.blk, p.off + i, p.ext - i, p.esz⟩)) b = some .dead := by
    rw [Inj.put_other _ _ (by omega), Inj.put_same]
  constructor
  · constructor
    · intro x hx
      simp
      by_cases e : x = H.length
      · omega
      · by_cases e' : x = b
        · omega
        · rw [hput x e' e] at hx; have := h.dom x hx; omega
    · intro x hx
      by_cases e : x = H.length
      · subst e; rw [Inj.put_same] at hx; cases hx
      · by_cases e' : x = b
        · subst e'; rw [List.getElem?_append_left (by simpa using hbl), List.getElem?_set_self hbl]
        · rw [hput x e' e] at hx
          rw [hget x e' (h.dom x (by simp [hx]))]; exact h.gone x hx
    · intro x q hx
      by_cases e : x = H.length
      · subst e; rw [Inj.put_same] at hx; cases hx
        refine ⟨_, hnew, ⟨l.old, l.esz, l.pos, by simp; omega, ?_, ?_, fun _ j V h1 h2 h3 => ?_, fun _ j => l.hot ho j⟩⟩
        case refine_3 =>
          dsimp only at h1 h2 h3
          simp only [List.length_take, List.length_drop] at h1
          rw [Nat.add_assoc] at h3
          by_cases hj : i + j < B0.cells.length
          · obtain ⟨U, hU, r⟩ := l.cell (i + j) B0.cells[i + j] (List.getElem?_eq_getElem hj)
            rw [hU] at h3; cases h3
            refine hplain _ _ (List.all_eq_true.1 hpl _ ?_) r
            rw [List.mem_iff_getElem]
            exact ⟨j - m, by simp; omega, by simp only [List.getElem_drop]; congr 1; omega⟩
          · exact l.spare ho (i + j) V (by omega) (by omega) h3
        · intro j v hj
          dsimp only at hj ⊢
          rw [drop_take_get] at hj
          by_cases hjm : j < m
          · rw [if_pos hjm] at hj
            obtain ⟨V, h1, h2⟩ := l.cell _ v hj
            exact ⟨V, by rw [Nat.add_assoc]; exact h1, h2.mono hle⟩
          · rw [if_neg hjm] at hj; cases hj
        · intro _ j hj
          dsimp only at hj ⊢
          rw [Nat.add_assoc]
          exact l.mine ho (i + j) (by omega)
      · by_cases e' : x = b
        · subst e'; rw [hputb] at hx; cases hx
        · rw [hput x e' e] at hx
          obtain ⟨B', hB', l'⟩ := h.lies x q hx
          exact ⟨B', by rw [hget x e' (h.dom x (by simp [hx]))]; exact hB', ⟨l'.old, l'.esz, l'.pos, l'.len, fun i v hv => let ⟨V, h1, h2⟩ := l'.cell i v hv; ⟨V, h1, h2.mono hle⟩, l'.mine, l'.spare, l'.hot⟩⟩
    · intro x y q q' B' hne hx hy hB' ho'
      by_cases ex : x = b
      · subst ex; rw [hputb] at hx; cases hx
      by_cases ey : y = b
      · subst ey; rw [hputb] at hy; cases hy
      by_cases e : x = H.length
      · subst e; rw [Inj.put_same] at hx; cases hx
        rw [hput y ey (Ne.symm hne)] at hy
        exact h.apart b y p q' B0 (Ne.symm ey) hb hy hB ho
      · rw [hput x ex e] at hx
        rw [hget x ex (h.dom x (by simp [hx]))] at hB'
        by_cases e' : y = H.length
        · subst e'; rw [Inj.put_same] at hy; cases hy
          exact (h.apart b x p q B0 (Ne.symm ex) hb hx hB ho).symm
        · rw [hput y ey e'] at hy
          exact h.apart x y q q' B' hne hx hy hB' ho'
  · simp
  · exact hle
  · intro x hx hn
    rw [hput x (fun e => by subst e; rw [hb] at hn; cases hn) (by omega)]; exact hn
  · intro x q B' hx hB' _
    by_cases ex : x = b
    · subst ex; rw [hputb] at hx; cases hx
    by_cases e : x = H.length
    · subst e; rw [Inj.put_same] at hx; cases hx
      exact ⟨b, p, B0, hb, hB, rfl, fun _ => ho⟩
    · rw [hput x ex e] at hx
      rw [hget x ex (h.dom x (by simp [hx]))] at hB'
      exact ⟨x, q, B', hx, hB', rfl, id⟩
  · exact ⟨rfl, rfl, rfl, Nat.le_refl _, fun _ _ _ => rfl⟩
theorem run_read {P : Program} {ρ : Inj} {H : Heap} {W : World} (h : Mem ρ H W) {b : Nat} {p : Place} {B : Blk} (hb : ρ b = some (.lies p)) (hB : H[b]? = some B)
    (i n : Nat) (hn : i + n ≤ B.cells.length) :
    ∃ Vs : Array Value, (∀ W', W'.heap = W.heap → (loadCells ⟨p.blk, p.off + i, none⟩ n).run P W' = .ok Vs W') ∧ VRs ρ ((B.cells.drop i).take n).toArray Vs := by
  obtain ⟨B0, hB0, l⟩ := h.lies b p hb
  obtain rfl : B0 = B := by rw [hB] at hB0; exact (Option.some.inj hB0).symm
  have key : ∀ (n k : Nat) (acc : Array Value), i + k + n ≤ B0.cells.length → acc.size = k →
      (∀ (j : Nat) (h1 : j < k) (h2 : j < acc.size), ∃ v, B0.cells[i + j]? = some v ∧ VR ρ v acc[j]) →
      ∃ Vs : Array Value, (∀ W', W'.heap = W.heap → (loadCellsFrom ⟨p.blk, p.off + i, none⟩ k n acc).run P W' = .ok Vs W') ∧ Vs.size = k + n ∧
        (∀ (j : Nat) (h1 : j < k + n) (h2 : j < Vs.size), ∃ v, B0.cells[i + j]? = some v ∧ VR ρ v Vs[j]) := by
    intro n
    induction n with
    | zero => intro k acc hk ha hacc; exact ⟨acc, fun _ _ => rfl, ha, fun j h1 h2 => hacc j h1 h2⟩
    | succ n ih =>
      intro k acc hk ha hacc
      have hlt : i + k < B0.cells.length := by omega
      obtain ⟨V, hV, r⟩ := l.cell (i + k) B0.cells[i + k] (List.getElem?_eq_getElem hlt)
      obtain ⟨Vs, h1, h2, h3⟩ := ih (k + 1) (acc.push V) (by omega) (by simp [ha]) (by
        intro j hj hj'
        by_cases e : j = k
        · subst e
          refine ⟨_, List.getElem?_eq_getElem hlt, ?_⟩
          have : (acc.push V)[j] = V := by simp [← ha]
          rw [this]; exact r
        · have hja : j < acc.size := by omega
          obtain ⟨v, g1, g2⟩ := hacc j (by omega) hja
          exact ⟨v, g1, by rw [Array.getElem_push_lt hja]; exact g2⟩)
      refine ⟨Vs, fun W' hW => ?_, by omega, fun j g1 g2 => h3 j (by omega) g2⟩
      show Sem.run P (Sem.bind (load (Addr.add ⟨p.blk, p.off + i, none⟩ k)) fun v => loadCellsFrom ⟨p.blk, p.off + i, none⟩ (k + 1) n (acc.push v)) W' = _
      rw [Addr.add_mk, Nat.add_assoc]
      have hV' : W'.cell? ⟨p.blk, p.off + (i + k), none⟩ = some V := by rw [← hV]; simp [World.cell?, hW]
      simp only [load, Sem.bind, Sem.run, hV']
      exact h1 W' hW
  obtain ⟨Vs, h1, h2, h3⟩ := key n 0 #[] (by omega) rfl (fun j h _ => absurd h (by omega))
  refine ⟨Vs, h1, by simp; omega, fun j g1 g2 => ?_⟩
  obtain ⟨v, k1, k2⟩ := h3 j (by omega) g2
  have : ((List.take n (List.drop i B0.cells)).toArray)[j] = v := by
    have e := drop_take_get B0.cells i n j
    rw [if_pos (by omega), k1] at e
    simp only [List.getElem_toArray]
    exact (List.getElem?_eq_some_iff.1 e).2
  rw [this]; exact k2
end Go.Fw
namespace Go.Fw
open Go
inductive TD where
  | int (k : IntKind) | bool | str
  | slice (e : TypeId) | arr (n : Nat) (e : TypeId)
  | struct (fs : List (TypeId × Nat))
  | ptr (e : TypeId) | fn | other
  deriving DecidableEq
structure TI where
  d : TD
  size : Nat
  bytes : Nat
  zero : Value
  /-- of a struct that may be compared: what its cells are -/
  eqk : Option (List TD)
abbrev TT := TypeId → Option TI
def TD.agg : TD → Bool | .struct _ | .arr _ _ => true | _ => false
def TD.fits : TD → TypeDesc → Bool
  | .int k, .int k' => k == k'
  | .bool, .bool => true
  | .str, .string => true
  | .slice e, .slice e' => e == e'
  | .arr n e, .array n' e' => n == n' && e == e'
  | .struct fs, .struct gs => gs.toList.map (fun g => (g.type, g.offset)) == fs
  | .ptr e, .pointer e' => e == e'
  | .fn, .func _ _ _ => true
  | .other, d => (match d with | .struct _ | .array _ _ => false | _ => true)
  | _, _ => false
def kindOf : Value → Option TD
  | .bool _ => some .bool
  | .int k _ => some (.int k)
  | .string _ => some .str
  | _ => none
def scalarEq : Value → Value → Bool
  | .bool a, .bool b => a == b
  | .int _ a, .int _ b => a == b
  | .string a, .string b => a == b
  | _, _ => false
def cellsEq : List Value → List Value → Bool
  | [], [] => true
  | x :: xs, y :: ys => scalarEq x y && cellsEq xs ys
  | _, _ => false
structure TOKat (P : Program) (t : TypeId) (i : TI) : Prop where
  info : ∃ n, P.info? t = some n ∧ n.size = i.size ∧ n.bytes = i.bytes ∧ n.zero = some i.zero
  pl : i.zero.cells.toList.all plain = true
  und : ∃ d, P.underlying t = some d ∧ i.d.fits d = true
  eq : ∀ ks, i.eqk = some ks → P.eqGuardType P.depth t = false ∧ ∀ (W : World) (xs ys : Array Value), xs.toList.map kindOf = ks.map some → ys.toList.map kindOf = ks.map some →
    (Op.equal t (.agg xs) (.agg ys)).run P W = .ok (cellsEq xs.toList ys.toList) W
def TOK (P : Program) (tt : TT) : Prop := ∀ t i, tt t = some i → TOKat P t i
def rd (H : Heap) (b i n : Nat) : Option (List Value) :=
  match H[b]? with
  | some B => if 0 < B.esz ∧ i + n ≤ B.cells.length then some ((B.cells.drop i).take n) else none
  | none => none
def wr (H : Heap) (b i : Nat) (vs : List Value) : Option Heap :=
  match H[b]? with
  | some B => if B.own = true ∧ i + vs.length ≤ B.cells.length ∧ vs.all isCell = true then some (H.set b { B with cells := splice B.cells i vs }) else none
  | none => none
def aLoad (tt : TT) (H : Heap) (t : TypeId) (a : Value) : Option Value :=
  match tt t, a with
  | some T, .pointer (some ⟨b, i, none⟩) =>
    if T.d.agg then (rd H b i T.size).map (fun cs => .agg cs.toArray)
    else match rd H b i 1 with
      | some [v] => some v
      | _ => none
  | _, _ => none
def aStore (tt : TT) (H : Heap) (t : TypeId) (a v : Value) : Option Heap :=
  match tt t, a with
  | some T, .pointer (some ⟨b, i, none⟩) => if v.cells.size = T.size then wr H b i v.cells.toList else none
  | _, _ => none
def eszOf (tt : TT) (t : TypeId) : Nat :=
  match tt t with
  | some ⟨.arr _ e, _, _, _, _⟩ => (match tt e with | some i => i.size | none => 1)
  | _ => 1
def mkBlk (tt : TT) (t : TypeId) (cs : List Value) : Blk := ⟨cs, if eszOf tt t = 0 then 1 else eszOf tt t, true⟩
def newPtr (H : Heap) : Value := .pointer (some ⟨H.length, 0, none⟩)
def zerosL (zc : List Value) (n : Nat) : List Value := (List.range n).map fun i => zc.getD (i % zc.length) default
def fillL (place : Nat → Option (Nat × Nat)) (cells : List Value) : List (Nat × Value) → Option (List Value)
  | [] => some cells
  | (i, v) :: rest =>
    match place i with
    | none => none
    | some (off, size) => if v.cells.size ≠ size ∨ off + v.cells.size > cells.length then none else fillL place (splice cells off v.cells.toList) rest
def sizeT (tt : TT) (t : TypeId) : Option Nat := (tt t).map (·.size)
def placesOf (tt : TT) (fs : List (TypeId × Nat)) (i : Nat) : Option (Nat × Nat) :=
  match fs[i]? with
  | some (t, o) => (sizeT tt t).map (fun s => (o, s))
  | none => none
def aBuild (tt : TT) (t : TypeId) (parts : List (Nat × Value)) : Option Value :=
  match tt t with
  | some ⟨.struct fs, _, _, z, _⟩ => if fs.all (fun f => (tt f.1).isSome) then (fillL (placesOf tt fs) z.cells.toList parts).map (fun cs => .agg cs.toArray) else none
  | some ⟨.arr _ e, _, _, z, _⟩ =>
    match sizeT tt e with
    | some s => (fillL (fun i => some (i * s, s)) z.cells.toList parts).map (fun cs => .agg cs.toArray)
    | none => none
  | _ => none
def aBuildSlice (tt : TT) (H : Heap) (t : TypeId) (len : Nat) (parts : List (Nat × Value)) : Option (Value × Heap) :=
  match tt t with
  | some ⟨.slice e, _, _, _, _⟩ =>
    match tt e with
    | some E =>
      if 0 < E.size ∧ len * E.size ≤ 16777216 then
        match fillL (fun i => some (i * E.size, E.size)) (zerosL (if len * E.size = 0 then [] else E.zero.cells.toList) (len * E.size)) parts with
        | some cs => some (.slice (some ⟨H.length, 0, none⟩) len len, H ++ [⟨cs, E.size, true⟩])
        | none => none
      else none
    | none => none
  | _ => none
def aMakeSlice (tt : TT) (H : Heap) (t : TypeId) (l c : Value) : Option (Value × Heap) :=
  match tt t, l, c with
  | some ⟨.slice e, _, _, _, _⟩, .int _ l, .int _ c =>
    match tt e with
    | some E =>
      if 0 < E.size ∧ 0 ≤ l ∧ l ≤ c ∧ c ≤ 1099511627776 ∧ E.bytes * c ≤ 1099511627776 then
        some (.slice (some ⟨H.length, 0, none⟩) l.toNat c.toNat, H ++ [⟨zerosL (if c.toNat * E.size = 0 then [] else E.zero.cells.toList) (c.toNat * E.size), E.size, true⟩])
      else none
    | none => none
  | _, _, _ => none
def aFieldAddr (tt : TT) (t : TypeId) (x : Value) (f : Nat) : Option Value :=
  match tt t, x with
  | some ⟨.struct fs, _, _, _, _⟩, .pointer (some ⟨b, i, none⟩) =>
    match fs[f]? with
    | some (ft, o) => match sizeT tt ft with
      | some s => if s = 0 then none else some (.pointer (some ⟨b, i + o, none⟩))
      | none => none
    | none => none
  | _, _ => none
def partL (tt : TT) (t : TypeId) (cs : List Value) (off : Nat) : Option Value :=
  match tt t with
  | some T => if T.d.agg then (if off + T.size ≤ cs.length then some (.agg ((cs.drop off).take T.size).toArray) else none) else cs[off]?
  | none => none
def aField (tt : TT) (t : TypeId) (x : Value) (f : Nat) : Option Value :=
  match tt t, x with
  | some ⟨.struct fs, _, _, _, _⟩, .agg cs =>
    match fs[f]? with
    | some (ft, o) => partL tt ft cs.toList o
    | none => none
  | _, _ => none
def aIndexAddr (tt : TT) (t : TypeId) (x ix : Value) : Option Value :=
  match tt t, x, ix with
  | some ⟨.arr n e, _, _, _, _⟩, .pointer (some ⟨b, i, none⟩), .int _ k =>
    match sizeT tt e with
    | some s => if 0 ≤ k ∧ k < n then some (.pointer (some ⟨b, i + k.toNat * s, none⟩)) else none
    | none => none
  | some ⟨.slice e, _, _, _, _⟩, .slice (some ⟨b, i, none⟩) n _, .int _ k =>
    match sizeT tt e with
    | some s => if 0 ≤ k ∧ k < n then some (.pointer (some ⟨b, i + k.toNat * s, none⟩)) else none
    | none => none
  | _, _, _ => none
def aIndex (tt : TT) (t : TypeId) (x ix : Value) : Option Value :=
  match tt t, x, ix with
  | some ⟨.arr n e, _, _, _, _⟩, .agg cs, .int _ k =>
    match sizeT tt e with
    | some s => if 0 ≤ k ∧ k < n then partL tt e cs.toList (k.toNat * s) else none
    | none => none
  | some ⟨.str, _, _, _, _⟩, .string s, .int _ k => if 0 ≤ k then (s[k.toNat]?).map (fun b => .int .u8 b.toNat) else none
  | _, _, _ => none
def bnd (x : Option Value) (dflt : Nat) : Option Nat :=
  match x with
  | none => some dflt
  | some (.int _ k) => if 0 ≤ k then some k.toNat else none
  | _ => none
def aSlice (tt : TT) (H : Heap) (t : TypeId) (x : Value) (lo hi mx : Option Value) : Option Value :=
  match tt t, x with
  | some ⟨.str, _, _, _, _⟩, .string s =>
    match mx, bnd lo 0, bnd hi s.size with
    | none, some l, some h => if l ≤ h ∧ h ≤ s.size then some (.string (s.extract l h)) else none
    | _, _, _ => none
  | some ⟨.slice e, _, _, _, _⟩, .slice none 0 0 =>
    match sizeT tt e, bnd lo 0, bnd hi 0, bnd mx 0 with
    | some _, some 0, some 0, some 0 => if mx.isSome && hi.isNone then none else some (.slice none 0 0)
    | _, _, _, _ => none
  | some ⟨.slice e, _, _, _, _⟩, .slice (some ⟨b, i, none⟩) n 0 =>
    match sizeT tt e, H[b]?, bnd lo 0, bnd hi n, mx with
    | some s, some B, some l, some h, none => if B.esz = s ∧ 0 < s ∧ l ≤ h ∧ h ≤ n then some (.slice (some ⟨b, i + l * s, none⟩) (h - l) 0) else none
    | _, _, _, _, _ => none
  | some ⟨.slice e, _, _, _, _⟩, .slice (some ⟨b, i, none⟩) n c =>
    match sizeT tt e, bnd lo 0, bnd hi n, bnd mx c with
    | some s, some l, some h, some m => if l ≤ h ∧ h ≤ m ∧ m ≤ c ∧ (mx.isSome && hi.isNone) = false then some (.slice (some ⟨b, i + l * s, none⟩) (h - l) (m - l)) else none
    | _, _, _, _ => none
  | some ⟨.arr n e, _, _, _, _⟩, .pointer (some ⟨b, i, none⟩) =>
    match sizeT tt e, bnd lo 0, bnd hi n, mx with
    | some s, some l, some h, none => if l ≤ h ∧ h ≤ n ∧ l < n then some (.slice (some ⟨b, i + l * s, none⟩) (h - l) (n - l)) else none
    | _, _, _, _ => none
  | _, _ => none
def srcCells (H : Heap) (s : Nat) (x : Value) (n : Nat) : Option (List Value) :=
  match x with
  | .slice none _ _ => if n = 0 then some [] else none
  | .slice (some ⟨b, i, none⟩) _ _ => rd H b i (n * s)
  | .string t => some ((t.data.toList.take n).map fun b => .int .u8 b.toNat)
  | _ => none
def srcLen : Value → Option Nat
  | .slice _ n _ => some n
  | .string t => some t.size
  | _ => none
def srcKind (d : TD) (sz : Nat) : Bool := match d with | .slice _ => true | .str => sz == 1 | _ => false
def TD.isI64 : TD → Bool | .int .i64 => true | _ => false
def aAppMake (H : Heap) (U E : TI) (s x : Value) : Option (Value × Heap) :=
  match s, x with
  | .slice (some ⟨b, i, none⟩) n c, .int .i64 k =>
    if 0 < E.size ∧ TD.isI64 U.d = true ∧ 0 < E.bytes ∧ E.bytes ≤ 1048576 ∧ E.zero.cells.size = E.size ∧ c ≠ 0 ∧ 0 ≤ k ∧ c < n + k.toNat ∧ (n + k.toNat) * E.bytes ≤ 1099511627776 then
      match rd H b i (n * E.size) with
      | some old => some (.slice (some ⟨H.length, 0, none⟩) (n + k.toNat) 0, H ++ [⟨old ++ zerosL E.zero.cells.toList (k.toNat * E.size), E.size, true⟩])
      | none => none
    else none
  | .slice none 0 0, .int .i64 k =>
    if 0 < E.size ∧ TD.isI64 U.d = true ∧ 0 < E.bytes ∧ E.bytes ≤ 1048576 ∧ E.zero.cells.size = E.size ∧ 0 < k ∧ k.toNat * E.bytes ≤ 1099511627776 then
      some (.slice (some ⟨H.length, 0, none⟩) k.toNat 0, H ++ [⟨zerosL E.zero.cells.toList (k.toNat * E.size), E.size, true⟩])
    else none
  | _, _ => none
def aAppend (tt : TT) (H : Heap) (tys : List TypeId) (s x : Value) : Option (Value × Heap) :=
  match tys with
  | [t, u] =>
    match tt t, tt u with
    | some ⟨.slice e, _, _, _, _⟩, some U =>
      match tt e, srcLen x with
      | some E, some m =>
        if 0 < E.size ∧ srcKind U.d E.size = true ∧ 0 < E.bytes ∧ E.bytes ≤ 1048576 ∧ (0 < m → E.zero.cells.size = E.size) then
          match srcCells H E.size x m with
          | some new =>
            if new.length = m * E.size ∧ new.all isCell = true then
              match s with
              | .slice none 0 0 =>
                if m = 0 then some (s, H) else if m * E.bytes ≤ 1099511627776 then some (.slice (some ⟨H.length, 0, none⟩) m 0, H ++ [⟨new, E.size, true⟩]) else none
              | .slice (some ⟨b, i, none⟩) n c =>
                if m = 0 then some (s, H) else
                if (n + m) * E.bytes ≤ 1099511627776 then
                  if c ≠ 0 ∧ n + m ≤ c then (wr H b (i + n * E.size) new).map fun H' => (.slice (some ⟨b, i, none⟩) (n + m) c, H')
                  else match rd H b i (n * E.size), H[b]? with
                    | some old, some B =>
                      if c ≠ 0 then some (.slice (some ⟨H.length, 0, none⟩) (n + m) 0, H ++ [⟨old ++ new, E.size, true⟩])
                      else if B.own = true ∧ B.esz = E.size ∧ (B.cells.drop (i + n * E.size)).all plain = true then some (.slice (some ⟨H.length, 0, none⟩) (n + m) 0, H.set b deadBlk ++ [⟨old ++ new, E.size, true⟩]) else none
                    | _, _ => none
                else none
              | _ => none
            else none
          | none => none
        else none
      | some E, none => aAppMake H U E s x
      | _, _ => none
    | _, _ => none
  | _ => none
def srcFits (x : Value) (sz : Nat) : Bool := match x with | .string _ => sz == 1 | _ => true
def aCopy (tt : TT) (H : Heap) (tys : List TypeId) (d x : Value) : Option (Value × Heap) :=
  match tys with
  | t :: _ =>
    match tt t with
    | some ⟨.slice e, _, _, _, _⟩ =>
      match tt e, srcLen x, d with
      | some E, some m, .slice (some ⟨b, i, none⟩) n _ =>
        match srcCells H E.size x (min m n) with
        | some new => if new.length = min m n * E.size ∧ srcFits x E.size = true then (wr H b i new).map fun H' => (.int .i64 (min m n : Nat), H') else none
        | none => none
      | some _, some _, .slice none 0 0 => some (.int .i64 0, H)
      | _, _, _ => none
    | _ => none
  | [] => none
def aLen (tt : TT) (tys : List TypeId) (x : Value) : Option Value :=
  match tys with
  | t :: _ =>
    match tt t, x with
    | some ⟨.str, _, _, _, _⟩, .string s => some (.int .i64 s.size)
    | some ⟨.slice _, _, _, _, _⟩, .slice _ n _ => some (.int .i64 n)
    | some ⟨.arr n _, _, _, _, _⟩, _ => some (.int .i64 n)
    | _, _ => none
  | [] => none
def aCap (tt : TT) (tys : List TypeId) (x : Value) : Option Value :=
  match tys with
  | t :: _ =>
    match tt t, x with
    | some ⟨.slice _, _, _, _, _⟩, .slice (some _) _ c => if c = 0 then none else some (.int .i64 c)
    | some ⟨.slice _, _, _, _, _⟩, .slice none 0 0 => some (.int .i64 0)
    | some ⟨.arr n _, _, _, _, _⟩, _ => some (.int .i64 n)
    | _, _ => none
  | [] => none
def maxInts : Value → List Value → Option Value
  | v, [] => some v
  | .int k x, .int _ y :: r => maxInts (.int k (if y > x then y else x)) r
  | _, _ => none
def minInts : Value → List Value → Option Value
  | v, [] => some v
  | .int k x, .int _ y :: r => minInts (.int k (if y < x then y else x)) r
  | _, _ => none
def aClear (tt : TT) (H : Heap) (tys : List TypeId) (x : Value) : Option (Value × Heap) :=
  match tys with
  | t :: _ =>
    match tt t with
    | some ⟨.slice e, _, _, _, _⟩ =>
      match tt e, x with
      | some E, .slice (some ⟨b, i, none⟩) n _ => if 0 < n ∧ E.zero.cells.size = E.size then (wr H b i (zerosL E.zero.cells.toList (n * E.size))).map fun H' => (.tuple #[], H') else none
      | _, _ => none
    | _ => none
  | [] => none
def aBuiltin (tt : TT) (H : Heap) (b : Builtin) (tys : List TypeId) (xs : List Value) : Option (Value × Heap) :=
  match b, xs with
  | .append, [s, x] => aAppend tt H tys s x
  | .copy, [d, x] => aCopy tt H tys d x
  | .clear, [x] => aClear tt H tys x
  | .len, [x] => (aLen tt tys x).map (fun v => (v, H))
  | .cap, [x] => (aCap tt tys x).map (fun v => (v, H))
  | .max, .int k x :: r => (maxInts (.int k x) r).map (fun v => (v, H))
  | .min, .int k x :: r => (minInts (.int k x) r).map (fun v => (v, H))
  | _, _ => none
def aCmp (op : BinOp) (x y : Int) : Option Value :=
  match op with
  | .eql => some (.bool (x == y)) | .neq => some (.bool (x != y))
  | .lss => some (.bool (x < y)) | .leq => some (.bool (x ≤ y)) | .gtr => some (.bool (x > y)) | .geq => some (.bool (x ≥ y))
  | _ => none
def aBits (op : BinOp) (k : IntKind) (x y : Int) : Option Value :=
  match op with
  | .and => some (.int k (k.wrap (BitVec.ofInt k.bits x &&& BitVec.ofInt k.bits y).toNat))
  | .or => some (.int k (k.wrap (BitVec.ofInt k.bits x ||| BitVec.ofInt k.bits y).toNat))
  | .xor => some (.int k (k.wrap (BitVec.ofInt k.bits x ^^^ BitVec.ofInt k.bits y).toNat))
  | .andNot => some (.int k (k.wrap (BitVec.ofInt k.bits x &&& ~~~(BitVec.ofInt k.bits y)).toNat))
  | _ => none
def aInt (op : BinOp) (k : IntKind) (x y : Int) : Option Value :=
  match op with
  | .add => some (.int k (k.wrap (x + y))) | .sub => some (.int k (k.wrap (x - y))) | .mul => some (.int k (k.wrap (x * y)))
  | .quo => if y = 0 then none else some (.int k (k.wrap (x.tdiv y)))
  | .rem => if y = 0 then none else some (.int k (x.tmod y))
  | .shl => if y < 0 then none else some (.int k (k.wrap (x * 2 ^ (min y.toNat k.bits))))
  | .shr => if y < 0 then none else some (.int k (x.fdiv (2 ^ (min y.toNat k.bits))))
  | .and | .or | .xor | .andNot => aBits op k x y
  | _ => aCmp op x y
def aStr (op : BinOp) (x y : ByteArray) : Option Value :=
  match op with
  | .add => if x.size + y.size ≤ 1099511627776 then some (.string (x ++ y)) else none
  | .eql => some (.bool (x.toList == y.toList)) | .neq => some (.bool !(x.toList == y.toList))
  | .lss => some (.bool (Op.bytesLess x.toList y.toList))
  | .leq => some (.bool (Op.bytesLess x.toList y.toList || x.toList == y.toList))
  | .gtr => some (.bool !(Op.bytesLess x.toList y.toList || x.toList == y.toList))
  | .geq => some (.bool !(Op.bytesLess x.toList y.toList))
  | _ => none
def aEq (tt : TT) (t : TypeId) (x y : Value) : Option Bool :=
  match tt t, x, y with
  | some ⟨.bool, _, _, _, _⟩, .bool a, .bool b => some (a == b)
  | some ⟨_, _, _, _, some ks⟩, .agg xs, .agg ys => if xs.toList.map kindOf = ks.map some ∧ ys.toList.map kindOf = ks.map some then some (cellsEq xs.toList ys.toList) else none
  | some ⟨.slice _, _, _, _, _⟩, .slice none _ _, .slice b _ _ => some b.isNone
  | some ⟨.slice _, _, _, _, _⟩, .slice _ _ _, .slice none _ _ => some false
  | some ⟨.ptr _, _, _, _, _⟩, .pointer none, .pointer b => some b.isNone
  | some ⟨.ptr _, _, _, _, _⟩, .pointer _, .pointer none => some false
  | some ⟨.fn, _, _, _, _⟩, .nilFunc, .nilFunc => some true
  | some ⟨.fn, _, _, _, _⟩, .nilFunc, .func _ _ _ => some false
  | some ⟨.fn, _, _, _, _⟩, .func _ _ _, .nilFunc => some false
  | _, _, _ => none
def isShift : BinOp → Bool | .shl | .shr => true | _ => false
def aBin (tt : TT) (op : BinOp) (t : TypeId) (x y : Value) : Option Value :=
  match x, y with
  | .int k a, .int k' b => if isShift op = true ∨ k = k' then aInt op k a b else none
  | .string a, .string b => aStr op a b
  | x, y =>
    match op with
    | .eql => (aEq tt t x y).map fun b => .bool b
    | .neq => (aEq tt t x y).map fun b => .bool !b
    | _ => none
def aUn (op : UnOp) (x : Value) : Option Value :=
  match op, x with
  | .neg, .int k n => some (.int k (k.wrap (0 - n)))
  | .xor, .int k n => aBits .xor k (if k.signed then -1 else k.max) n
  | .not, .bool b => some (.bool !b)
  | _, _ => none
def bytesOf : List Value → Option (List UInt8)
  | [] => some []
  | .int .u8 n :: r => (bytesOf r).map (UInt8.ofNat n.toNat :: ·)
  | _ => none
def aConv (tt : TT) (H : Heap) (src dst : TypeId) (x : Value) : Option Value :=
  match tt src, tt dst, x with
  | some _, some ⟨.int k, _, _, _, _⟩, .int _ n => some (.int k (k.wrap n))
  | some ⟨.str, _, _, _, _⟩, some ⟨.str, _, _, _, _⟩, .string s => some (.string s)
  | some ⟨.slice e, _, _, _, _⟩, some ⟨.str, _, _, _, _⟩, .slice none 0 0 =>
    match tt e with
    | some ⟨.int .u8, _, _, _, _⟩ => some (.string .empty)
    | _ => none
  | some ⟨.slice e, _, _, _, _⟩, some ⟨.str, _, _, _, _⟩, .slice (some ⟨b, i, none⟩) n _ =>
    match tt e, (rd H b i n).bind bytesOf with
    | some ⟨.int .u8, _, _, _, _⟩, some l => some (.string ⟨l.toArray⟩)
    | _, _ => none
  | _, _, _ => none
def parts' (e : Operand → Value) (ps : Array (Nat × Operand)) : List (Nat × Value) := ps.toList.map fun p => (p.1, e p.2)
def aop (tt : TT) (op : Op) (e : Operand → Value) (H : Heap) : Option (Value × Heap) :=
  match op with
  | .move x | .assign x => some (e x, H)
  | .pick c a b => match e c with | .bool t => some (if t then e a else e b, H) | _ => none
  | .alloc t => match tt t with | some T => some (newPtr H, H ++ [mkBlk tt t T.zero.cells.toList]) | none => none
  | .box t x => some (newPtr H, H ++ [mkBlk tt t (e x).cells.toList])
  | .build t ps => (aBuild tt t (parts' e ps)).map (fun v => (v, H))
  | .buildSlice t n ps => aBuildSlice tt H t n (parts' e ps)
  | .load t a => (aLoad tt H t (e a)).map (fun v => (v, H))
  | .store t a x => (aStore tt H t (e a) (e x)).map (fun H' => (undef, H'))
  | .nilCheck x => match e x with | .pointer (some a) => some (.pointer (some a), H) | .func (.func f) x y => some (.func (.func f) x y, H) | _ => none
  | .binOp op t x y _ => (aBin tt op t (e x) (e y)).map (fun v => (v, H))
  | .unOp op _ x => (aUn op (e x)).map (fun v => (v, H))
  | .convert s d x => (aConv tt H s d (e x)).map (fun v => (v, H))
  | .makeFunc (.func f) first cap => some (.func (.func f) (first.map e) (cap.map e), H)
  | .makeSlice t l c => aMakeSlice tt H t (e l) (e c)
  | .slice t x lo hi mx => (aSlice tt H t (e x) (lo.map e) (hi.map e) (mx.map e)).map (fun v => (v, H))
  | .fieldAddr t x f => (aFieldAddr tt t (e x) f).map (fun v => (v, H))
  | .field t x f => (aField tt t (e x) f).map (fun v => (v, H))
  | .indexAddr t x i => (aIndexAddr tt t (e x) (e i)).map (fun v => (v, H))
  | .index t x i => (aIndex tt t (e x) (e i)).map (fun v => (v, H))
  | .extract x i => match e x with | .tuple vs => (vs[i]?).map (fun v => (v, H)) | _ => none
  | .call { callee := .builtin b, args, argTypes } => aBuiltin tt H b argTypes.toList (args.toList.map e)
  | _ => none
end Go.Fw
namespace Go.Fw
open Go
section
variable {P : Program} {tt : TT} {ρ : Inj} {H : Heap} {W : World}
theorem run_size {t : TypeId} {T : TI} (h : TOKat P t T) : (sizeOf t).run P W = .ok T.size W := by
  obtain ⟨n, h1, h2, _, _⟩ := h.info
  simp [sizeOf, typeInfo, h1, h2]
theorem run_bytes {t : TypeId} {T : TI} (h : TOKat P t T) : ∃ n, (typeInfo t).run P W = .ok n W ∧ n.bytes = T.bytes := by
  obtain ⟨n, h1, h2, h3, _⟩ := h.info
  exact ⟨n, by simp [typeInfo, h1], h3⟩
theorem run_zero {t : TypeId} {T : TI} (h : TOKat P t T) : (zeroValue t).run P W = .ok T.zero W := by
  obtain ⟨n, h1, _, _, h4⟩ := h.info
  simp [zeroValue, typeInfo, h1, h4]
theorem run_und {t : TypeId} {T : TI} (h : TOKat P t T) : ∃ d, (underlying t).run P W = .ok d W ∧ T.d.fits d = true := by
  obtain ⟨d, h1, h2⟩ := h.und
  exact ⟨d, run_underlying h1 W, h2⟩
theorem fits_agg {T : TD} {d : TypeDesc} (h : T.fits d = true) : (match d with | .struct _ | .array _ _ => true | _ => false) = T.agg := by
  cases T <;> cases d <;> first | rfl | exact Bool.noConfusion h
theorem run_isAgg {t : TypeId} {T : TI} (h : TOKat P t T) : (isAgg t).run P W = .ok T.d.agg W := by
  obtain ⟨d, h1, h2⟩ := run_und (W := W) h
  have e := fits_agg h2
  unfold isAgg
  simp only [Sem.run_bind, h1, Result.andThen_ok]
  rw [← e]
  cases d <;> simp
theorem fits_slice {T : TD} {e : TypeId} (h : T = .slice e) {d : TypeDesc} (hf : T.fits d = true) : d = .slice e := by
  subst h; cases d <;> first | exact Bool.noConfusion hf | (simp [TD.fits] at hf; subst hf; rfl)
theorem fits_arr {n : Nat} {e : TypeId} {d : TypeDesc} (hf : (TD.arr n e).fits d = true) : d = .array n e := by
  cases d <;> first | exact Bool.noConfusion hf | (simp [TD.fits] at hf; obtain ⟨rfl, rfl⟩ := hf; rfl)
theorem fits_struct {fs : List (TypeId × Nat)} {d : TypeDesc} (hf : (TD.struct fs).fits d = true) : ∃ gs, d = .struct gs ∧ gs.toList.map (fun g => (g.type, g.offset)) = fs := by
  cases d <;> first | exact Bool.noConfusion hf | exact ⟨_, rfl, by simpa [TD.fits] using hf⟩
theorem fits_int {k : IntKind} {d : TypeDesc} (hf : (TD.int k).fits d = true) : d = .int k := by
  cases d <;> first | exact Bool.noConfusion hf | (simp [TD.fits] at hf; subst hf; rfl)
theorem fits_str {d : TypeDesc} (hf : TD.str.fits d = true) : d = .string := by
  cases d <;> first | rfl | exact Bool.noConfusion hf
theorem fits_bool {d : TypeDesc} (hf : TD.bool.fits d = true) : d = .bool := by
  cases d <;> first | rfl | exact Bool.noConfusion hf
theorem fits_ptr {e : TypeId} {d : TypeDesc} (hf : (TD.ptr e).fits d = true) : d = .pointer e := by
  cases d <;> first | exact Bool.noConfusion hf | (simp [TD.fits] at hf; subst hf; rfl)
theorem fits_fn {d : TypeDesc} (hf : TD.fn.fits d = true) : ∃ a b c, d = .func a b c := by
  cases d <;> first | exact Bool.noConfusion hf | exact ⟨_, _, _, rfl⟩
theorem VRs.cells {v V : Value} (h : VR ρ v V) : VRs ρ v.cells V.cells := by
  cases h with
  | agg x x' hx h => exact ⟨hx, h⟩
  | _ => refine ⟨rfl, fun i h1 h2 => ?_⟩
         simp only [Value.cells] at h1 h2 ⊢
         obtain rfl : i = 0 := by simp at h1; omega
         constructor <;> assumption
theorem rd_sim {b i n : Nat} {cs : List Value} (hM : Mem ρ H W) (hr : rd H b i n = some cs) (hb : ρ b ≠ none) :
    ∃ p B, ρ b = some (.lies p) ∧ H[b]? = some B ∧ cs = (B.cells.drop i).take n ∧ cs.length = n ∧ i + n ≤ B.cells.length ∧ ∃ Vs : Array Value, (∀ W', W'.heap = W.heap → (loadCells ⟨p.blk, p.off + i, none⟩ n).run P W' = .ok Vs W') ∧ VRs ρ cs.toArray Vs := by
  unfold rd at hr
  split at hr
  · rename_i B hB
    split at hr
    · rename_i hc
      cases hr
      cases hs : ρ b with
      | none => exact absurd hs hb
      | some s =>
        cases s with
        | dead =>
          have := hM.gone b hs
          rw [hB] at this; cases this; simp [deadBlk] at hc
        | lies p =>
          obtain ⟨Vs, h1, h2⟩ := run_read (P := P) hM hs hB i n hc.2
          exact ⟨p, B, rfl, hB, rfl, by simp; omega, hc.2, Vs, h1, h2⟩
    · cases hr
  · cases hr
theorem VRs.get {x x' : Array Value} (h : VRs ρ x x') {i : Nat} {v : Value} (hv : x[i]? = some v) : ∃ V, x'[i]? = some V ∧ VR ρ v V := by
  obtain ⟨h1, h2⟩ := h
  obtain ⟨hi, rfl⟩ := Array.getElem?_eq_some_iff.1 hv
  exact ⟨x'[i], Array.getElem?_eq_getElem (h1 ▸ hi), h2 i hi (h1 ▸ hi)⟩
theorem run_loadCells1 {A : Addr} {Vs : Array Value} (h : (loadCells A 1).run P W = .ok Vs W) : ∃ V, (load A).run P W = .ok V W ∧ Vs = #[V] := by
  have e : A.add 0 = A := rfl
  simp only [loadCells, loadCellsFrom, Sem.run_bind, e] at h
  cases hl : (load A).run P W with
  | ok V W' =>
    rw [hl] at h
    simp at h
    obtain ⟨rfl, rfl⟩ := h
    exact ⟨V, rfl, rfl⟩
  | halt x y => rw [hl] at h; simp at h
theorem load_sim {t : TypeId} {a v A : Value} (hT : TOK P tt) (hM : Mem ρ H W) (h : aLoad tt H t a = some v) (ha : VR ρ a A) :
    ∃ V, (Instr.loadAt t A).run P W = .ok V W ∧ VR ρ v V := by
  unfold aLoad at h
  split at h
  · rename_i T b i hT'
    have hk := hT t T hT'
    have key : ∀ (n : Nat) (cs : List Value), rd H b i n = some cs → ∃ (Vs : Array Value) (A' : Addr), A = .pointer (some A') ∧ (loadCells A' n).run P W = .ok Vs W ∧ VRs ρ cs.toArray Vs := by
      intro n cs hr
      have hb : ρ b ≠ none := by cases ha <;> simp_all
      obtain ⟨p, B, h1, h2, h3, _, _, Vs, h4, h5⟩ := rd_sim (P := P) hM hr hb
      cases ha with
      | ptr _ _ q hq => rw [h1] at hq; cases hq; exact ⟨Vs, _, rfl, h4 W rfl, h5⟩
      | ptrDead _ _ A hq => rw [h1] at hq; cases hq
    split at h
    · rename_i hagg
      rw [Option.map_eq_some_iff] at h
      obtain ⟨cs, hr, rfl⟩ := h
      obtain ⟨Vs, A', rfl, h1, h2⟩ := key _ _ hr
      refine ⟨.agg Vs, ?_, .agg _ _ h2.1 h2.2⟩
      simp only [Instr.loadAt, Instr.sureAddr, loadVar, Sem.run_bind, Sem.run_pure, Result.andThen_ok, run_isAgg hk, hagg, if_true, run_size hk, h1]
    · rename_i hagg
      split at h
      · rename_i v' hr
        cases h
        obtain ⟨Vs, A', rfl, h1, h2⟩ := key _ _ hr
        obtain ⟨V, h3, rfl⟩ := run_loadCells1 h1
        refine ⟨V, ?_, by simpa using h2.2 0 (by simp) (by simp)⟩
        have hagg' : T.d.agg = false := by simpa using hagg
        simp only [Instr.loadAt, Instr.sureAddr, loadVar, Sem.run_bind, Sem.run_pure, Result.andThen_ok, run_isAgg hk, hagg', Bool.false_eq_true, if_false, h3]
      · cases h
  · cases h
theorem wr_sim {b i : Nat} {vs : List Value} {Vs : Array Value} {H' : Heap} (hM : Mem ρ H W) (hw : wr H b i vs = some H') (hb : ρ b ≠ none) (hv : VRs ρ vs.toArray Vs) :
    ∃ p W', ρ b = some (.lies p) ∧ (storeCells ⟨p.blk, p.off + i, none⟩ Vs.toList).run P W = .ok () W' ∧ Step ρ H W ρ H' W' := by
  unfold wr at hw
  split at hw
  · rename_i B hB
    split at hw
    · rename_i hc
      obtain ⟨ho, hi, hcell⟩ := hc
      cases hw
      cases hs : ρ b with
      | none => exact absurd hs hb
      | some s =>
        cases s with
        | dead =>
          have := hM.gone b hs
          rw [hB] at this; cases this; simp [deadBlk] at ho
        | lies p =>
          obtain ⟨B0, hB0, l⟩ := hM.lies b p hs
          obtain rfl : B0 = B := by rw [hB] at hB0; exact (Option.some.inj hB0).symm
          have hl := hv.1
          simp at hl
          obtain ⟨W', h1, h2⟩ := Step.write (P := P) hs (i0 := i) vs Vs.toList 0 hM hB ho (by omega) (by have := l.len; omega) (by simpa using hl)
            (fun k h1 h2 => ⟨by have := hv.2 k (by simpa using h1) (by simpa using h2); rw [List.getElem_toArray] at this; simpa using this, List.all_eq_true.1 hcell _ (List.getElem_mem h1)⟩)
          exact ⟨p, W', rfl, h1, h2⟩
    · cases hw
  · cases hw
theorem store_sim {t : TypeId} {a v A V : Value} {H' : Heap} (hT : TOK P tt) (hM : Mem ρ H W) (h : aStore tt H t a v = some H') (ha : VR ρ a A) (hv : VR ρ v V) :
    ∃ W', (Instr.storeAt t A V).run P W = .ok () W' ∧ Step ρ H W ρ H' W' := by
  unfold aStore at h
  split at h
  · rename_i T b i hT'
    have hk := hT t T hT'
    split at h
    · rename_i hsz
      have hb : ρ b ≠ none := by cases ha <;> simp_all
      have hcs := VRs.cells hv
      obtain ⟨p, W', h1, h2, h3⟩ := wr_sim (P := P) (Vs := V.cells) hM h hb (by simpa using hcs)
      refine ⟨W', ?_, h3⟩
      cases ha with
      | ptrDead _ _ A hq => rw [h1] at hq; cases hq
      | ptr _ _ q hq =>
        rw [h1] at hq; cases hq
        have e : ¬ V.cells.size ≠ T.size := by rw [← hcs.1]; simpa using hsz
        simp only [Instr.storeAt, Instr.sureAddr, storeVar, Sem.run_bind, Sem.run_pure, Result.andThen_ok, run_size hk, if_neg e]
        exact h2
    · cases h
  · cases h
theorem VR.int_inv {k : IntKind} {n : Int} {V : Value} (h : VR ρ (.int k n) V) : V = .int k n := by cases h; rfl
theorem VR.bool_inv {b : Bool} {V : Value} (h : VR ρ (.bool b) V) : V = .bool b := by cases h; rfl
theorem VR.str_inv {s : ByteArray} {V : Value} (h : VR ρ (.string s) V) : V = .string s := by cases h; rfl
theorem VR.agg_inv {x : Array Value} {V : Value} (h : VR ρ (.agg x) V) : ∃ x', V = .agg x' ∧ VRs ρ x x' := by cases h; exact ⟨_, rfl, by assumption, by assumption⟩
theorem VR.tuple_inv {x : Array Value} {V : Value} (h : VR ρ (.tuple x) V) : ∃ x', V = .tuple x' ∧ VRs ρ x x' := by cases h; exact ⟨_, rfl, by assumption, by assumption⟩
theorem VR.plain {v : Value} (h : plain v = true) : VR ρ v v := by
  unfold Fw.plain at h
  split at h <;> first | constructor | cases h
theorem VRs.plain {x : Array Value} (h : x.toList.all plain = true) : VRs ρ x x :=
  ⟨rfl, fun i h1 _ => VR.plain (List.all_eq_true.1 h _ (by simp))⟩
theorem run_newRow (e : TypeId) (cs : Array Value) : (newRow e cs).run P W = .ok ⟨W.heap.size, 0, none⟩ { W with heap := W.heap.push (.cells cs e) } := by
  simp [newRow, newObj, Sem.run]
theorem Step.row (hM : Mem ρ H W) (B : Blk) (cs : Array Value) (e : TypeId) (hpos : 0 < B.esz) (hc : VRs ρ B.cells.toArray cs) :
    Step ρ H W (ρ.put H.length (.lies ⟨W.heap.size, 0, cs.size, B.esz⟩)) (H ++ [B]) { W with heap := W.heap.push (.cells cs e) } := by
  refine Step.alloc hM B cs e hpos (by have := hc.1; simp at this; omega) (fun i v hv => ?_) (fun i V h1 h2 => ?_)
  · exact hc.get (by simpa using hv)
  · have := hc.1
    have := (Array.getElem?_eq_some_iff.1 h2).1
    simp at *; omega
theorem newptr_vr (W : World) (n e : Nat) : VR (ρ.put H.length (.lies ⟨W.heap.size, 0, n, e⟩)) (newPtr H) (.pointer (some ⟨W.heap.size, 0, none⟩)) :=
  .ptr H.length 0 ⟨W.heap.size, 0, n, e⟩ (Inj.put_same _ _ _)
theorem mkBlk_pos (t : TypeId) (cs : List Value) : 0 < (mkBlk tt t cs).esz := by
  unfold mkBlk; dsimp only; split <;> omega
theorem newVar_sim (t : TypeId) {v V : Value} (hM : Mem ρ H W) (hv : VRs ρ v.cells V.cells) :
    ∃ ρ1 W1, (newVar t V).run P W = .ok ⟨W.heap.size, 0, none⟩ W1 ∧ VR ρ1 (newPtr H) (.pointer (some ⟨W.heap.size, 0, none⟩)) ∧ Step ρ H W ρ1 (H ++ [mkBlk tt t v.cells.toList]) W1 :=
  ⟨_, _, run_newRow t V.cells, newptr_vr W _ _, Step.row hM _ V.cells t (mkBlk_pos t _) (by simpa [mkBlk] using hv)⟩
theorem alloc_sim {t : TypeId} {T : TI} (hT : TOK P tt) (hM : Mem ρ H W) (h : tt t = some T) :
    ∃ V ρ1 W1, (Instr.alloc t true (.tuple #[])).run P W = .ok V W1 ∧ VR ρ1 (newPtr H) V ∧ Step ρ H W ρ1 (H ++ [mkBlk tt t T.zero.cells.toList]) W1 := by
  have hk := hT t T h
  obtain ⟨ρ1, W1, h1, h2, h3⟩ := newVar_sim (P := P) (tt := tt) t (v := T.zero) (V := T.zero) hM (VRs.plain hk.pl)
  exact ⟨_, ρ1, W1, by simp [Instr.alloc, run_zero hk, h1], h2, h3⟩
theorem box_sim {t : TypeId} {v V : Value} (hM : Mem ρ H W) (hv : VR ρ v V) :
    ∃ V' ρ1 W1, (Instr.box t V).run P W = .ok V' W1 ∧ VR ρ1 (newPtr H) V' ∧ Step ρ H W ρ1 (H ++ [mkBlk tt t v.cells.toList]) W1 := by
  obtain ⟨ρ1, W1, h1, h2, h3⟩ := newVar_sim (P := P) (tt := tt) t hM (VRs.cells hv)
  exact ⟨_, ρ1, W1, by simp [Instr.box, h1], h2, h3⟩
def VRp (ρ : Inj) (ps : List (Nat × Value)) (Ps : List (Nat × Value)) : Prop :=
  ps.length = Ps.length ∧ ∀ (i : Nat) (h1 : i < ps.length) (h2 : i < Ps.length), ps[i].1 = Ps[i].1 ∧ VR ρ ps[i].2 Ps[i].2
theorem foldl_set (off : Nat) : ∀ (vs : List Value) (j : Nat) (cs : Array Value), off + j + vs.length ≤ cs.size →
    ((vs.zipIdx j).foldl (fun cs (x : Value × Nat) => cs.setIfInBounds (off + x.2) x.1) cs).toList = splice cs.toList (off + j) vs := by
  intro vs
  induction vs with
  | nil => intro j cs h; simp [splice_nil]
  | cons v vs ih =>
    intro j cs h
    simp only [List.zipIdx_cons, List.foldl_cons]
    simp at h
    rw [ih (j + 1) _ (by simp; omega)]
    rw [splice_cons _ _ _ _ (by simp; omega)]
    congr 1
    apply List.ext_getElem?
    intro i
    rw [splice_get _ _ _ (by simp; omega)]
    simp only [Array.toList_setIfInBounds, List.getElem?_set]
    by_cases e : i = off + j
    · subst e; simp; omega
    · rw [if_neg (Ne.symm e), if_neg e]
theorem fill_sim (place PLACE : Nat → Option (Nat × Nat)) (hp : ∀ i x, place i = some x → PLACE i = some x) : ∀ (ps Ps : List (Nat × Value)) (cs : List Value) (Cs : Array Value) (r : List Value), VRp ρ ps Ps → VRs ρ cs.toArray Cs →
    fillL place cs ps = some r → ∃ R, Instr.fill PLACE Cs Ps = some R ∧ VRs ρ r.toArray R := by
  intro ps
  induction ps with
  | nil =>
    intro Ps cs Cs r h hc hr
    cases Ps with
    | cons _ _ => simp [VRp] at h
    | nil => simp [fillL] at hr; subst hr; exact ⟨Cs, rfl, hc⟩
  | cons p ps ih =>
    intro Ps cs Cs r h hc hr
    cases Ps with
    | nil => simp [VRp] at h
    | cons Q Ps =>
      obtain ⟨i, v⟩ := p
      obtain ⟨i', V⟩ := Q
      obtain ⟨hl, hall⟩ := h
      have h0 := hall 0 (by simp) (by simp)
      simp at h0
      obtain ⟨rfl, hv⟩ := h0
      have hps : VRp ρ ps Ps := ⟨by simpa using hl, fun k h1 h2 => by have := hall (k + 1) (by simp; omega) (by simp; omega); simpa using this⟩
      unfold fillL at hr
      split at hr
      · cases hr
      · rename_i off size hpl
        have hvc := VRs.cells hv
        split at hr
        · cases hr
        · rename_i hcond
          have hcs := hc.1
          simp at hcs hcond
          unfold Instr.fill
          simp only [hp _ _ hpl]
          rw [if_neg (by simp; rw [← hvc.1]; omega)]
          refine ih Ps _ _ r hps ?_ hr
          have e := foldl_set off V.cells.toList 0 Cs (by simp; rw [← hvc.1]; omega)
          have e2 : (V.cells.zipIdx.foldl (fun cs (x : Value × Nat) => cs.setIfInBounds (off + x.2) x.1) Cs).toList = splice Cs.toList off V.cells.toList := by
            rw [← Array.foldl_toList, Array.toList_zipIdx]; exact e
          have e3 : (V.cells.zipIdx.foldl (fun cs (x : Value × Nat) => cs.setIfInBounds (off + x.2) x.1) Cs) = (splice Cs.toList off V.cells.toList).toArray := by
            apply Array.ext'; rw [e2]
          have e4 : (V.cells.zipIdx.foldl (fun cs (x : Value × Nat) => match x with | (c, j) => cs.setIfInBounds (off + j) c) Cs) = (splice Cs.toList off V.cells.toList).toArray := e3
          rw [e4]
          have hlenC : Cs.toList.length = cs.length := by simp [hcs]
          refine ⟨by simp only [List.size_toArray]; rw [splice_length _ _ _ (by omega), splice_length _ _ _ (by simp; omega)]; simp [hcs, hvc.1], fun k h1 h2 => ?_⟩
          simp only [List.getElem_toArray]
          have g1 := splice_at cs off v.cells.toList (by omega) k
          have g2 := splice_at Cs.toList off V.cells.toList (by simp; omega) k
          simp only [List.size_toArray] at h1 h2
          rw [List.getElem?_eq_getElem h1] at g1
          rw [List.getElem?_eq_getElem h2] at g2
          have hv1 := hvc.1
          simp only [Array.length_toList] at g1 g2
          by_cases c1 : k < off
          · rw [if_pos c1] at g1 g2
            obtain ⟨U, k1, k2⟩ := hc.get (i := k) (v := (splice cs off v.cells.toList)[k]) (by simpa using g1.symm)
            simp only [Array.getElem?_toList] at g2
            rw [← g2] at k1; cases k1; exact k2
          · by_cases c2 : k < off + v.cells.size
            · rw [if_neg c1, if_pos c2] at g1
              rw [if_neg c1, if_pos (by omega)] at g2
              obtain ⟨U, k1, k2⟩ := hvc.get (i := k - off) (v := (splice cs off v.cells.toList)[k]) (by simpa using g1.symm)
              simp only [Array.getElem?_toList] at g2
              rw [← g2] at k1; cases k1; exact k2
            · rw [if_neg c1, if_neg c2] at g1
              rw [if_neg c1, if_neg (by omega)] at g2
              obtain ⟨U, k1, k2⟩ := hc.get (i := k) (v := (splice cs off v.cells.toList)[k]) (by simpa using g1.symm)
              simp only [Array.getElem?_toList] at g2
              rw [← g2] at k1; cases k1; exact k2
theorem mapM_places (hT : TOK P tt) : ∀ (l : List Field), (∀ f ∈ l, (tt f.type).isSome = true) →
    (l.mapM (fun f => do pure (f.offset, ← sizeOf f.type) : Field → Sem (Nat × Nat))).run P W = .ok (l.map fun f => (f.offset, ((tt f.type).map (·.size)).getD 0)) W := by
  intro l
  induction l with
  | nil => intro _; simp
  | cons f l ih =>
    intro h
    obtain ⟨T, hf⟩ := Option.isSome_iff_exists.1 (h f (by simp))
    simp only [List.mapM_cons, Sem.run_bind, run_size (hT _ _ hf), Result.andThen_ok, Sem.run_pure, ih (fun g hg => h g (by simp [hg])), List.map_cons, hf, Option.map_some, Option.getD_some]
theorem fill_mono {place PLACE : Nat → Option (Nat × Nat)} (hp : ∀ i x, place i = some x → PLACE i = some x) {ps Ps : List (Nat × Value)} {cs : List Value} {Cs : Array Value} {r : List Value}
    (h : VRp ρ ps Ps) (hc : VRs ρ cs.toArray Cs) (hr : fillL place cs ps = some r) : ∃ R, Instr.fill PLACE Cs Ps = some R ∧ VRs ρ r.toArray R := fill_sim place PLACE hp ps Ps cs Cs r h hc hr
theorem build_sim {t : TypeId} {ps Ps : List (Nat × Value)} {v : Value} (hT : TOK P tt) (h : aBuild tt t ps = some v) (hp : VRp ρ ps Ps) :
    ∃ V, (Instr.build t Ps.toArray).run P W = .ok V W ∧ VR ρ v V := by
  unfold aBuild at h
  split at h
  · rename_i fs sz bt z ek hT'
    split at h
    · rename_i hall
      have hk := hT _ _ hT'
      rw [Option.map_eq_some_iff] at h
      obtain ⟨cs, hf, rfl⟩ := h
      obtain ⟨d, hd1, hd2⟩ := run_und (W := W) hk
      obtain ⟨gs, rfl, hgs⟩ := fits_struct hd2
      have hz : VRs ρ z.cells.toList.toArray z.cells := by simpa using VRs.plain hk.pl
      have hm := mapM_places (W := W) hT gs.toList (fun f hf => by
        have : (f.type, f.offset) ∈ fs := by rw [← hgs]; exact List.mem_map.2 ⟨f, hf, rfl⟩
        exact List.all_eq_true.1 hall _ this)
      obtain ⟨R, h1, h2⟩ := fill_mono (PLACE := fun i => ((gs.toList.map fun f => (f.offset, ((tt f.type).map (·.size)).getD 0)).toArray)[i]?) (by
        intro i x hx
        unfold placesOf at hx
        split at hx
        · rename_i t' o hfs
          rw [Option.map_eq_some_iff] at hx
          obtain ⟨s, hs, rfl⟩ := hx
          rw [← hgs] at hfs
          simp only [List.getElem?_map, Option.map_eq_some_iff] at hfs
          obtain ⟨g, hg, he⟩ := hfs
          cases he
          unfold sizeT at hs
          simp [hg, hs]
        · cases hx) hp hz hf
      refine ⟨.agg R, ?_, .agg _ _ h2.1 h2.2⟩
      have hm' : (gs.mapM (fun f => do pure (f.offset, ← sizeOf f.type) : Field → Sem (Nat × Nat))).run P W = .ok (gs.toList.map fun f => (f.offset, ((tt f.type).map (·.size)).getD 0)).toArray W := by
        rw [← Array.toArray_toList (xs := gs), List.mapM_toArray]
        simp only [Sem.run_map, hm, Result.andThen_ok]
      simp only [Instr.build, Sem.run_bind, run_zero hk, Result.andThen_ok, hd1, hm', List.toList_toArray]
      rw [h1]
      simp
    · cases h
  · rename_i n e sz bt z ek hT'
    have hk := hT _ _ hT'
    split at h
    · rename_i s hs
      rw [Option.map_eq_some_iff] at h
      obtain ⟨cs, hf, rfl⟩ := h
      obtain ⟨d, hd1, hd2⟩ := run_und (W := W) hk
      have := fits_arr hd2; subst this
      have hz : VRs ρ z.cells.toList.toArray z.cells := by simpa using VRs.plain hk.pl
      obtain ⟨R, h1, h2⟩ := fill_mono (PLACE := fun i => some (i * s, s)) (fun i x hx => hx) hp hz hf
      refine ⟨.agg R, ?_, .agg _ _ h2.1 h2.2⟩
      unfold sizeT at hs
      rw [Option.map_eq_some_iff] at hs
      obtain ⟨E, hE, rfl⟩ := hs
      simp only [Instr.build, Sem.run_bind, run_zero hk, Result.andThen_ok, hd1, run_size (hT _ _ hE), List.toList_toArray]
      rw [h1]
      simp
    · cases h
  · cases h
theorem zeros_sim {zc : List Value} {Z : Array Value} (hz : zc = Z.toList) (hpl : zc.all Fw.plain = true) (n : Nat) :
    VRs ρ (zerosL zc n).toArray ((Array.range n).map (fun i => Z[i % Z.size]!)) := by
  subst hz
  refine ⟨by simp [zerosL], fun i h1 h2 => ?_⟩
  simp only [zerosL, List.getElem_toArray, List.getElem_map, List.getElem_range, Array.getElem_map, Array.getElem_range]
  have e : Z[i % Z.size]! = Z.toList.getD (i % Z.toList.length) default := by
    simp [List.getD_eq_getElem?_getD, getElem!_def]
    cases Z[i % Z.size]? <;> rfl
  rw [e]
  by_cases hlt : i % Z.toList.length < Z.toList.length
  · refine VR.plain (List.all_eq_true.1 hpl _ ?_)
    rw [List.getD_eq_getElem?_getD, List.getElem?_eq_getElem hlt]; simp
  · rw [List.getD_eq_getElem?_getD, List.getElem?_eq_none (by omega)]
    exact .bool false
theorem slice_new (W : World) (n e l c : Nat) (hlc : l ≤ c) (h : c * e ≤ n) : VR (ρ.put H.length (.lies ⟨W.heap.size, 0, n, e⟩)) (.slice (some ⟨H.length, 0, none⟩) l c) (.slice (some ⟨W.heap.size, 0, none⟩) l c) :=
  .slice H.length 0 l c ⟨W.heap.size, 0, n, e⟩ c (Inj.put_same _ _ _) hlc (.inr rfl) (fun _ => by simpa using h)
theorem buildSlice_sim {t : TypeId} {n : Nat} {ps Ps : List (Nat × Value)} {v : Value} {H1 : Heap} (hT : TOK P tt) (hM : Mem ρ H W) (h : aBuildSlice tt H t n ps = some (v, H1)) (hp : VRp ρ ps Ps) :
    ∃ V ρ1 W1, (Instr.buildSlice t n Ps.toArray).run P W = .ok V W1 ∧ VR ρ1 v V ∧ Step ρ H W ρ1 H1 W1 := by
  unfold aBuildSlice at h
  split at h
  · rename_i e sz bt z ek hT'
    have hk := hT _ _ hT'
    split at h
    · rename_i E hE
      have hkE := hT _ _ hE
      split at h
      · rename_i hc
        split at h
        · rename_i cs hf
          cases h
          obtain ⟨d, hd1, hd2⟩ := run_und (W := W) hk
          have := fits_slice rfl hd2; subst this
          by_cases h0 : n * E.size = 0
          · rw [if_pos h0] at hf
            have hz : VRs ρ (zerosL [] (n * E.size)).toArray ((Array.range (n * E.size)).map (fun i => (#[] : Array Value)[i % (#[] : Array Value).size]!)) := zeros_sim rfl rfl _
            obtain ⟨R, h1, h2⟩ := fill_mono (PLACE := fun i => some (i * E.size, E.size)) (fun i x hx => hx) hp hz hf
            refine ⟨_, _, _, ?_, slice_new W R.size E.size n n (Nat.le_refl _) (by omega), Step.row hM ⟨cs, E.size, true⟩ R e hc.1 h2⟩
            simp only [Instr.buildSlice, Sem.run_bind, hd1, Result.andThen_ok, run_size hkE]
            rw [if_neg (by omega)]
            simp only [pure_bind, if_pos h0, List.toList_toArray]
            rw [h1]
            simp [run_newRow]
          · rw [if_neg h0] at hf
            have hz : VRs ρ (zerosL E.zero.cells.toList (n * E.size)).toArray ((Array.range (n * E.size)).map (fun i => E.zero.cells[i % E.zero.cells.size]!)) := zeros_sim rfl hkE.pl _
            obtain ⟨R, h1, h2⟩ := fill_mono (PLACE := fun i => some (i * E.size, E.size)) (fun i x hx => hx) hp hz hf
            have hlen : n * E.size ≤ R.size := by
              have e1 : cs.length = R.size := by simpa using h2.1
              have e2 : ∀ (ps : List (Nat × Value)) (a r : List Value), fillL (fun i => some (i * E.size, E.size)) a ps = some r → r.length = a.length := by
                intro ps
                induction ps with
                | nil => intro a r hr; simp [fillL] at hr; rw [hr]
                | cons q ps ih =>
                  intro a r hr
                  unfold fillL at hr
                  simp only at hr
                  split at hr
                  · cases hr
                  · rename_i hcond
                    rw [ih _ _ hr, splice_length _ _ _ (by omega)]
                    simp at hcond ⊢; omega
              rw [← e1, e2 _ _ _ hf]; simp [zerosL]
            refine ⟨_, _, _, ?_, slice_new W R.size E.size n n (Nat.le_refl _) hlen, Step.row hM ⟨cs, E.size, true⟩ R e hc.1 h2⟩
            simp only [Instr.buildSlice, Sem.run_bind, hd1, Result.andThen_ok, run_size hkE]
            rw [if_neg (by omega)]
            simp only [Sem.run_pure, Sem.run_bind, Result.andThen_ok, if_neg h0, run_zero hkE, List.toList_toArray]
            rw [h1]
            simp [run_newRow]
        · cases h
      · cases h
    · cases h
  · cases h
theorem wrap_id {n : Int} (h0 : 0 ≤ n) (h1 : n ≤ 1099511627776) : IntKind.i64.wrap n = n := by
  unfold IntKind.wrap IntKind.bits IntKind.signed
  have : n % (2 ^ 64 : Int) = n := Int.emod_eq_of_lt h0 (by omega)
  simp only [this]
  rw [if_neg (by simp; omega)]
theorem makeSlice_sim {t : TypeId} {l c : Value} {v : Value} {H1 : Heap} {L C : Value} (hT : TOK P tt) (hM : Mem ρ H W) (h : aMakeSlice tt H t l c = some (v, H1)) (hl : VR ρ l L) (hc : VR ρ c C) :
    ∃ V ρ1 W1, (Instr.makeSlice t L C).run P W = .ok V W1 ∧ VR ρ1 v V ∧ Step ρ H W ρ1 H1 W1 := by
  unfold aMakeSlice at h
  split at h
  · rename_i e sz bt z ek k1 l k2 c hT'
    have hk := hT _ _ hT'
    have := hl.int_inv; subst this
    have := hc.int_inv; subst this
    split at h
    · rename_i E hE
      have hkE := hT _ _ hE
      split at h
      · rename_i hcond
        obtain ⟨h1, h2, h3, h4, h5⟩ := hcond
        cases h
        obtain ⟨d, hd1, hd2⟩ := run_und (W := W) hk
        have := fits_slice rfl hd2; subst this
        obtain ⟨info, hi1, hi2⟩ := run_bytes (W := W) hkE
        have hcw : IntKind.i64.wrap c = c := wrap_id (by omega) h4
        have hlw : IntKind.i64.wrap l = l := wrap_id h2 (by omega)
        have hz : VRs ρ (zerosL (if c.toNat * E.size = 0 then [] else E.zero.cells.toList) (c.toNat * E.size)).toArray
            ((Array.range (c.toNat * E.size)).map (fun i => (if c.toNat * E.size = 0 then #[] else E.zero.cells)[i % (if c.toNat * E.size = 0 then #[] else E.zero.cells).size]!)) := by
          refine zeros_sim (by split <;> rfl) ?_ _
          split
          · rfl
          · exact hkE.pl
        refine ⟨_, _, _, ?_, slice_new W _ E.size l.toNat c.toNat (by omega) (by simp), Step.row hM ⟨_, E.size, true⟩ _ e h1 hz⟩
        have hb : ¬ (decide (c < 0) || decide (↑info.bytes * c > 2 ^ 48)) = true := by
          rw [hi2]
          have : (E.bytes : Int) * c ≤ 1099511627776 := h5
          simp; omega
        have hlc : ¬ (l > c) := by omega
        have hl0 : ¬ (l < 0) := by omega
        simp only [Instr.makeSlice, Sem.run_bind, hd1, Result.andThen_ok, asInt, asIntOf, Sem.run_pure, hi1, hcw, hlw]
        simp only [hb, hl0, hlc, decide_false, Bool.or_false, Bool.false_eq_true, if_false]
        have hroom : ∀ n, (askRoom n).run P W = .ok () W := by
          intro n; unfold askRoom; split <;> simp [mark, Sem.run]
        simp only [Sem.run_bind, hroom, Result.andThen_ok, run_size hkE]
        by_cases h0 : c.toNat * E.size = 0
        · simp only [if_pos h0, pure_bind, Sem.run_pure, Sem.run_bind, Result.andThen_ok, run_newRow]
        · simp only [if_neg h0, pure_bind, Sem.run_pure, Sem.run_bind, Result.andThen_ok, run_zero hkE, run_newRow]
      · cases h
    · cases h
  · cases h
theorem fieldAddr_sim {t : TypeId} {x X v : Value} {f : Nat} (hT : TOK P tt) (h : aFieldAddr tt t x f = some v) (hx : VR ρ x X) :
    ∃ V, (Instr.fieldAt t X f).run P W = .ok V W ∧ VR ρ v V := by
  unfold aFieldAddr at h
  split at h
  · rename_i fs sz bt z ek b i hT'
    have hk := hT _ _ hT'
    split at h
    · rename_i ft o hf
      split at h
      · rename_i s hs
        split at h
        · cases h
        · rename_i hs0
          cases h
          unfold sizeT at hs
          rw [Option.map_eq_some_iff] at hs
          obtain ⟨F, hF, rfl⟩ := hs
          obtain ⟨d, hd1, hd2⟩ := run_und (W := W) hk
          obtain ⟨gs, rfl, hgs⟩ := fits_struct hd2
          rw [← hgs] at hf
          simp only [List.getElem?_map, Option.map_eq_some_iff] at hf
          obtain ⟨g, hg, he⟩ := hf
          cases he
          have hg' : gs[f]? = some g := by simpa using hg
          cases hx with
          | ptr _ _ p hp =>
            refine ⟨.pointer (some ⟨p.blk, p.off + (i + g.offset), none⟩), ?_, .ptr b (i + g.offset) p hp⟩
            simp only [Instr.fieldAt, Sem.run_bind, hd1, Result.andThen_ok, hg', Instr.sureAddr, Sem.run_pure, fieldPlace, run_size (hT _ _ hF), if_neg hs0, Addr.add_mk, Nat.add_assoc]
          | ptrDead _ _ A hp =>
            refine ⟨.pointer (some (A.add g.offset)), ?_, .ptrDead b (i + g.offset) _ hp⟩
            simp only [Instr.fieldAt, Sem.run_bind, hd1, Result.andThen_ok, hg', Instr.sureAddr, Sem.run_pure, fieldPlace, run_size (hT _ _ hF), if_neg hs0]
      · cases h
    · cases h
  · cases h
theorem part_sim {t : TypeId} {cs : List Value} {Cs : Array Value} {off : Nat} {v : Value} (hT : TOK P tt) (h : partL tt t cs off = some v) (hc : VRs ρ cs.toArray Cs) :
    ∃ V, (part t Cs off).run P W = .ok V W ∧ VR ρ v V := by
  unfold partL at h
  split at h
  · rename_i T hT'
    have hk := hT _ _ hT'
    split at h
    · rename_i hagg
      split at h
      · rename_i hlen
        cases h
        refine ⟨.agg (Cs.extract off (off + T.size)), ?_, ?_⟩
        · simp only [part, Sem.run_bind, run_isAgg hk, hagg, Result.andThen_ok, if_true, run_size hk, Sem.run_pure]
        · have hs := hc.1
          simp at hs
          refine .agg _ _ (by simp; omega) (fun i h1 h2 => ?_)
          simp at h1
          have := hc.2 (off + i) (by simp; omega) (by omega)
          simpa using this
      · cases h
    · rename_i hagg
      have hagg' : T.d.agg = false := by simpa using hagg
      obtain ⟨V, h1, h2⟩ := hc.get (i := off) (v := v) (by simpa using h)
      refine ⟨V, ?_, h2⟩
      simp only [part, Sem.run_bind, run_isAgg hk, hagg', Result.andThen_ok, Bool.false_eq_true, if_false, h1, Sem.run_pure]
  · cases h
theorem field_sim {t : TypeId} {x X v : Value} {f : Nat} (hT : TOK P tt) (h : aField tt t x f = some v) (hx : VR ρ x X) :
    ∃ V, (Instr.field t X f).run P W = .ok V W ∧ VR ρ v V := by
  unfold aField at h
  split at h
  · rename_i fs sz bt z ek cs hT'
    have hk := hT _ _ hT'
    split at h
    · rename_i ft o hf
      obtain ⟨X', rfl, hX⟩ := hx.agg_inv
      obtain ⟨d, hd1, hd2⟩ := run_und (W := W) hk
      obtain ⟨gs, rfl, hgs⟩ := fits_struct hd2
      rw [← hgs] at hf
      simp only [List.getElem?_map, Option.map_eq_some_iff] at hf
      obtain ⟨g, hg, he⟩ := hf
      cases he
      have hg' : gs[f]? = some g := by simpa using hg
      obtain ⟨V, h1, h2⟩ := part_sim (P := P) (W := W) hT h (Cs := X') (by simpa using hX)
      refine ⟨V, ?_, h2⟩
      simp only [Instr.field, Sem.run_bind, hd1, Result.andThen_ok, hg', asAgg, Sem.run_pure]
      exact h1
    · cases h
  · cases h
theorem indexAddr_sim {t : TypeId} {x X ix IX v : Value} (hT : TOK P tt) (h : aIndexAddr tt t x ix = some v) (hx : VR ρ x X) (hi : VR ρ ix IX) :
    ∃ V, (Instr.indexAt t X IX).run P W = .ok V W ∧ VR ρ v V := by
  unfold aIndexAddr at h
  split at h
  · rename_i n e sz bt z ek b i kk k hT'
    have hk := hT _ _ hT'
    have := hi.int_inv; subst this
    split at h
    · rename_i s hs
      split at h
      · rename_i hc
        cases h
        unfold sizeT at hs
        rw [Option.map_eq_some_iff] at hs
        obtain ⟨F, hF, rfl⟩ := hs
        obtain ⟨d, hd1, hd2⟩ := run_und (W := W) hk
        have := fits_arr hd2; subst this
        cases hx with
        | ptr _ _ p hp =>
          refine ⟨.pointer (some ⟨p.blk, p.off + (i + k.toNat * F.size), none⟩), ?_, .ptr b _ p hp⟩
          simp only [Instr.indexAt, Sem.run_bind, asIntOf, Sem.run_pure, Result.andThen_ok, hd1, Instr.sureAddr, if_pos hc, run_size (hT _ _ hF), Addr.add_mk, Nat.add_assoc]
        | ptrDead _ _ A hp =>
          refine ⟨.pointer (some (A.add (k.toNat * F.size))), ?_, .ptrDead b _ _ hp⟩
          simp only [Instr.indexAt, Sem.run_bind, asIntOf, Sem.run_pure, Result.andThen_ok, hd1, Instr.sureAddr, if_pos hc, run_size (hT _ _ hF)]
      · cases h
    · cases h
  · rename_i e sz bt z ek b i n cc kk k hT'
    have hk := hT _ _ hT'
    have := hi.int_inv; subst this
    split at h
    · rename_i s hs
      split at h
      · rename_i hc
        cases h
        unfold sizeT at hs
        rw [Option.map_eq_some_iff] at hs
        obtain ⟨F, hF, rfl⟩ := hs
        obtain ⟨d, hd1, hd2⟩ := run_und (W := W) hk
        have := fits_slice rfl hd2; subst this
        cases hx with
        | slice _ _ _ _ p C hp h1 h2 h3 =>
          refine ⟨.pointer (some ⟨p.blk, p.off + (i + k.toNat * F.size), none⟩), ?_, .ptr b _ p hp⟩
          simp only [Instr.indexAt, Sem.run_bind, asIntOf, Sem.run_pure, Result.andThen_ok, hd1, if_pos hc, run_size (hT _ _ hF), Addr.add_mk, Nat.add_assoc]
        | sliceNone _ _ A hp => exfalso; have := hc.1; have := hc.2; omega
        | sliceDead _ _ _ _ A C hp h1 h2 =>
          refine ⟨.pointer (some (A.add (k.toNat * F.size))), ?_, .ptrDead b _ _ hp⟩
          simp only [Instr.indexAt, Sem.run_bind, asIntOf, Sem.run_pure, Result.andThen_ok, hd1, if_pos hc, run_size (hT _ _ hF)]
      · cases h
    · cases h
  · cases h
theorem index_sim {t : TypeId} {x X ix IX v : Value} (hT : TOK P tt) (h : aIndex tt t x ix = some v) (hx : VR ρ x X) (hi : VR ρ ix IX) :
    ∃ V, (Instr.index t X IX).run P W = .ok V W ∧ VR ρ v V := by
  unfold aIndex at h
  split at h
  · rename_i n e sz bt z ek cs kk k hT'
    have hk := hT _ _ hT'
    have := hi.int_inv; subst this
    obtain ⟨X', rfl, hX⟩ := hx.agg_inv
    split at h
    · rename_i s hs
      split at h
      · rename_i hc
        unfold sizeT at hs
        rw [Option.map_eq_some_iff] at hs
        obtain ⟨F, hF, rfl⟩ := hs
        obtain ⟨d, hd1, hd2⟩ := run_und (W := W) hk
        have := fits_arr hd2; subst this
        obtain ⟨V, h1, h2⟩ := part_sim (P := P) (W := W) hT h (Cs := X') (by simpa using hX)
        refine ⟨V, ?_, h2⟩
        simp only [Instr.index, Sem.run_bind, asIntOf, Sem.run_pure, Result.andThen_ok, hd1, if_pos hc, run_size (hT _ _ hF)]
        exact h1
      · cases h
    · cases h
  · rename_i sz bt z ek s kk k hT'
    have hk := hT _ _ hT'
    have := hi.int_inv; subst this
    have := hx.str_inv; subst this
    split at h
    · rename_i hc
      rw [Option.map_eq_some_iff] at h
      obtain ⟨b, hb, rfl⟩ := h
      obtain ⟨d, hd1, hd2⟩ := run_und (W := W) hk
      have := fits_str hd2; subst this
      refine ⟨_, ?_, .int .u8 b.toNat⟩
      simp only [Instr.index, Sem.run_bind, asIntOf, Sem.run_pure, Result.andThen_ok, hd1, if_pos hc, hb]
    · cases h
  · cases h
end
end Go.Fw
namespace Go.Fw
open Go
section
variable {P : Program} {tt : TT} {ρ : Inj} {H : Heap} {W : World}
def VRo (ρ : Inj) (x X : Option Value) : Prop := match x, X with | none, none => True | some v, some V => VR ρ v V | _, _ => False
theorem VRo.isSome {x X : Option Value} (h : VRo ρ x X) : X.isSome = x.isSome := by
  cases x <;> cases X <;> simp_all [VRo]
theorem bnd_some {v : Value} {X : Option Value} {d l y : Nat} (hx : VRo ρ (some v) X) (h : bnd (some v) d = some l) (hy : l ≤ y) :
    ∃ V, X = some V ∧ ∀ code, (Instr.sliceBound V y code).run P W = .ok l W := by
  cases X with
  | none => exact hx.elim
  | some V =>
    refine ⟨V, rfl, fun code => ?_⟩
    unfold bnd at h
    split at h
    · rename_i e; cases e
    · rename_i k n e
      cases e
      split at h
      · rename_i h0
        cases h
        have := VR.int_inv hx; subst this
        simp only [Instr.sliceBound, Sem.run_bind, asIntOf, Sem.run_pure, Result.andThen_ok]
        rw [if_pos ⟨h0, by omega⟩]
        rfl
      · cases h
    · cases h
theorem bounds_run {isSlice : Bool} {len cap l h m : Nat} {lo hi mx LO HI MX : Option Value} (hl : VRo ρ lo LO) (hh : VRo ρ hi HI) (hm : VRo ρ mx MX)
    (el : bnd lo 0 = some l) (eh : bnd hi len = some h) (em : bnd mx cap = some m) (h1 : l ≤ h) (h2 : h ≤ m) (h3 : m ≤ cap) (hn : (mx.isSome && hi.isNone) = false) :
    (Instr.sliceBounds isSlice len cap LO HI MX).run P W = .ok (l, h, m) W := by
  unfold Instr.sliceBounds
  cases mx with
  | none =>
    cases MX with
    | some _ => exact hm.elim
    | none =>
      have em' : cap = m := by simpa [bnd] using em
      subst em'
      cases hi with
      | none =>
        cases HI with
        | some _ => exact hh.elim
        | none =>
          have eh' : len = h := by simpa [bnd] using eh
          subst eh'
          cases lo with
          | none =>
            cases LO with
            | some _ => exact hl.elim
            | none =>
              have el' : 0 = l := by simpa [bnd] using el
              subst el'
              simp
          | some v =>
            obtain ⟨V, rfl, e3⟩ := bnd_some (P := P) (W := W) hl el h1
            simp [e3]
      | some u =>
        obtain ⟨U, rfl, e2⟩ := bnd_some (P := P) (W := W) hh eh h2
        cases lo with
        | none =>
          cases LO with
          | some _ => exact hl.elim
          | none =>
            have el' : 0 = l := by simpa [bnd] using el
            subst el'
            simp [e2]
        | some v =>
          obtain ⟨V, rfl, e3⟩ := bnd_some (P := P) (W := W) hl el h1
          simp [e2, e3]
  | some x =>
    obtain ⟨X, rfl, e1⟩ := bnd_some (P := P) (W := W) hm em h3
    cases hi with
    | none => simp at hn
    | some u =>
      obtain ⟨U, rfl, e2⟩ := bnd_some (P := P) (W := W) hh eh h2
      cases lo with
      | none =>
        cases LO with
        | some _ => exact hl.elim
        | none =>
          have el' : 0 = l := by simpa [bnd] using el
          subst el'
          simp [e1, e2]
      | some v =>
        obtain ⟨V, rfl, e3⟩ := bnd_some (P := P) (W := W) hl el h1
        simp [e1, e2, e3]
theorem sliceAt_slice {t : TypeId} {X : Value} {lo hi mx : Option Value} {d : TypeDesc} (hd : (underlying t).run P W = .ok d W) (h : ∀ n e, d ≠ .array n e) :
    (Instr.sliceAt t X lo hi mx).run P W = (Instr.slice t X lo hi mx).run P W := by
  simp only [Instr.sliceAt, Sem.run_bind, hd, Result.andThen_ok]
theorem slice_sim {t : TypeId} {x X v : Value} {lo hi mx LO HI MX : Option Value} (hT : TOK P tt) (hM : Mem ρ H W) (h : aSlice tt H t x lo hi mx = some v) (hx : VR ρ x X)
    (hl : VRo ρ lo LO) (hh : VRo ρ hi HI) (hm : VRo ρ mx MX) :
    ∃ V, (Instr.sliceAt t X LO HI MX).run P W = .ok V W ∧ VR ρ v V := by
  unfold aSlice at h
  split at h
  · rename_i sz bt z ek s hT'
    have hk := hT _ _ hT'
    have := hx.str_inv; subst this
    obtain ⟨d, hd1, hd2⟩ := run_und (W := W) hk
    have := fits_str hd2; subst this
    split at h
    · rename_i l h' el eh
      split at h
      · rename_i hc
        cases h
        have hmx : MX = none := by cases MX with | none => rfl | some _ => exact hm.elim
        subst hmx
        refine ⟨_, ?_, .str _⟩
        rw [sliceAt_slice hd1 (by intros; simp)]
        have hb := bounds_run (P := P) (W := W) (isSlice := false) (cap := s.size) (m := s.size) hl hh hm el eh (by simp [bnd]) hc.1 hc.2 (Nat.le_refl _) (by simp)
        simp only [Instr.slice, Sem.run_bind, hd1, Result.andThen_ok, Option.isSome_none, Bool.false_eq_true, if_false, Sem.run_pure, hb]
      · cases h
    · cases h
  · rename_i e sz bt z ek hT'
    have hk := hT _ _ hT'
    obtain ⟨d, hd1, hd2⟩ := run_und (W := W) hk
    have := fits_slice rfl hd2; subst this
    have hX : X = .slice none 0 0 := by cases hx; rfl
    subst hX
    split at h
    · rename_i s hs el eh em
      split at h
      · cases h
      · rename_i hn
        cases h
        unfold sizeT at hs
        rw [Option.map_eq_some_iff] at hs
        obtain ⟨F, hF, rfl⟩ := hs
        refine ⟨_, ?_, .nilslice⟩
        rw [sliceAt_slice hd1 (by intros; simp)]
        have hb := bounds_run (P := P) (W := W) (isSlice := true) hl hh hm el eh em (Nat.le_refl _) (Nat.le_refl _) (Nat.le_refl _) (by cases hq : (mx.isSome && hi.isNone) with | false => rfl | true => exact absurd hq hn)
        simp only [Instr.slice, Sem.run_bind, hd1, Result.andThen_ok, hb, run_size (hT _ _ hF), Sem.run_pure]
        rfl
    · cases h
  · rename_i e sz bt z ek b i n hT'
    have hk := hT _ _ hT'
    obtain ⟨d, hd1, hd2⟩ := run_und (W := W) hk
    have := fits_slice rfl hd2; subst this
    split at h
    · rename_i s B l h' hs hB el eh
      split at h
      · rename_i hc
        cases h
        obtain ⟨c1, c2, c3, c4⟩ := hc
        unfold sizeT at hs
        rw [Option.map_eq_some_iff] at hs
        obtain ⟨F, hF, rfl⟩ := hs
        have hmx : MX = none := by cases MX with | none => rfl | some _ => exact hm.elim
        subst hmx
        have key : ∀ (A : Addr) (C : Nat), n ≤ C → X = .slice (some A) n C → (Instr.sliceAt t X LO HI none).run P W = .ok (.slice (some (if C = l then A else A.add (l * F.size))) (h' - l) (C - l)) W := by
          rintro A C hC rfl
          rw [sliceAt_slice hd1 (by intros; simp)]
          have hb := bounds_run (P := P) (W := W) (isSlice := true) (cap := C) (m := C) hl hh hm el eh (by simp [bnd]) c3 (by omega) (Nat.le_refl _) (by simp)
          simp only [Instr.slice, Sem.run_bind, hd1, Result.andThen_ok, hb, run_size (hT _ _ hF), Sem.run_pure, Option.map_some]
          congr 3
          split <;> rfl
        cases hx with
        | slice _ _ _ _ p C hp g1 g2 g3 =>
          refine ⟨_, key _ C g1 rfl, ?_⟩
          obtain ⟨B0, hB0, L⟩ := hM.lies b p hp
          obtain rfl : B0 = B := by rw [hB] at hB0; exact (Option.some.inj hB0).symm
          by_cases e0 : C = l
          · subst e0
            have : h' - C = 0 := by omega
            rw [this, if_pos rfl, Nat.sub_self]
            exact .sliceNone b _ _ (by simp [hp])
          · rw [if_neg e0, Addr.add_mk, Nat.add_assoc]
            refine .slice b _ _ 0 p (C - l) hp (by omega) (.inl rfl) (fun _ => ?_)
            have := g3 rfl
            rw [L.esz, c1] at this ⊢
            have e3 : i + l * F.size + (C - l) * F.size = i + C * F.size := by
              rw [Nat.add_assoc, ← Nat.add_mul]; congr 2; omega
            omega
        | sliceNone _ _ A hp =>
          refine ⟨_, key _ 0 (Nat.le_refl _) rfl, ?_⟩
          have e1 : l = 0 := by omega
          have e2 : h' = 0 := by omega
          subst e1; subst e2
          simp
          exact .sliceNone b _ _ hp
        | sliceDead _ _ _ _ A C hp g1 g2 =>
          have := hM.gone b hp
          rw [hB] at this; cases this
          simp [deadBlk] at c1; omega
      · cases h
    · cases h
  · rename_i e sz bt z ek b i n c hc0 hT'
    have hk := hT _ _ hT'
    obtain ⟨d, hd1, hd2⟩ := run_und (W := W) hk
    have := fits_slice rfl hd2; subst this
    split at h
    · rename_i s l h' m hs el eh em
      split at h
      · rename_i hc
        cases h
        obtain ⟨c1, c2, c3, c4⟩ := hc
        unfold sizeT at hs
        rw [Option.map_eq_some_iff] at hs
        obtain ⟨F, hF, rfl⟩ := hs
        have hcne : c ≠ 0 := fun e => hc0 e
        have key : ∀ (A : Addr), X = .slice (some A) n c → (Instr.sliceAt t X LO HI MX).run P W = .ok (.slice (some (if m = l then A else A.add (l * F.size))) (h' - l) (m - l)) W := by
          rintro A rfl
          rw [sliceAt_slice hd1 (by intros; simp)]
          have hb := bounds_run (P := P) (W := W) (isSlice := true) hl hh hm el eh em c1 c2 c3 c4
          simp only [Instr.slice, Sem.run_bind, hd1, Result.andThen_ok, hb, run_size (hT _ _ hF), Sem.run_pure, Option.map_some]
          congr 3
          split <;> rfl
        cases hx with
        | slice _ _ _ _ p C hp g1 g2 g3 =>
          have hCc : C = c := g2.resolve_left hcne
          subst hCc
          refine ⟨_, key _ rfl, ?_⟩
          by_cases e0 : m = l
          · subst e0
            have : h' - m = 0 := by omega
            rw [this, if_pos rfl, Nat.sub_self]
            exact .sliceNone b _ _ (by simp [hp])
          · rw [if_neg e0, Addr.add_mk, Nat.add_assoc]
            exact .slice b _ _ _ p (m - l) hp (by omega) (.inr rfl) (fun hz => by omega)
        | sliceNone _ _ A hp => exact absurd rfl hcne
        | sliceDead _ _ _ _ A C hp g1 g2 =>
          have hCc : C = c := g2.resolve_left hcne
          subst hCc
          refine ⟨_, key _ rfl, ?_⟩
          exact .sliceDead b _ _ _ _ (m - l) hp (by omega) (.inr rfl)
      · cases h
    · cases h
  · rename_i n e sz bt z ek b i hT'
    have hk := hT _ _ hT'
    obtain ⟨d, hd1, hd2⟩ := run_und (W := W) hk
    have := fits_arr hd2; subst this
    split at h
    · rename_i s l h' hs el eh
      split at h
      · rename_i hc
        cases h
        obtain ⟨c1, c2, c3⟩ := hc
        unfold sizeT at hs
        rw [Option.map_eq_some_iff] at hs
        obtain ⟨F, hF, rfl⟩ := hs
        have hmx : MX = none := by cases MX with | none => rfl | some _ => exact hm.elim
        subst hmx
        have hb := bounds_run (P := P) (W := W) (isSlice := false) (cap := n) (m := n) hl hh hm el eh (by simp [bnd]) c1 c2 (Nat.le_refl _) (by simp)
        cases hx with
        | ptr _ _ p hp =>
          refine ⟨.slice (some ⟨p.blk, p.off + (i + l * F.size), none⟩) (h' - l) (n - l), ?_, .slice b _ _ _ p _ hp (by omega) (.inr rfl) (fun hz => by omega)⟩
          simp only [Instr.sliceAt, Sem.run_bind, hd1, Result.andThen_ok, Instr.sureAddr, Sem.run_pure, hb, run_size (hT _ _ hF)]
          rw [if_neg (by omega), Addr.add_mk, Nat.add_assoc]
        | ptrDead _ _ A hp =>
          refine ⟨.slice (some (A.add (l * F.size))) (h' - l) (n - l), ?_, .sliceDead b _ _ _ _ _ hp (by omega) (.inr rfl)⟩
          simp only [Instr.sliceAt, Sem.run_bind, hd1, Result.andThen_ok, Instr.sureAddr, Sem.run_pure, hb, run_size (hT _ _ hF)]
          rw [if_neg (by omega)]
      · cases h
    · cases h
  · cases h
theorem plain_vr {ρ : Inj} {v V : Value} (h : plain v = true) (r : VR ρ v V) : plain V = true := by
  cases r <;> first | exact h | (simp [plain] at h; done) | rfl | skip
theorem src_sim {sz n : Nat} {x X : Value} {cs : List Value} (hM : Mem ρ H W) (h : srcCells H sz x n = some cs) (hx : VR ρ x X) (hn : ∀ k, srcLen x = some k → n ≤ k) :
    ∃ Cs : Array Value, (∀ W', W'.heap = W.heap → (Builtin.firstCells sz n X).run P W' = .ok Cs W') ∧ VRs ρ cs.toArray Cs := by
  unfold srcCells at h
  split at h
  · split at h
    · rename_i h0
      cases h
      cases hx
      exact ⟨#[], fun W' _ => by simp [Builtin.firstCells], rfl, fun i h _ => by simp at h⟩
    · cases h
  · rename_i b i m c
    have hb : ρ b ≠ none := by cases hx <;> simp_all
    obtain ⟨p, B, h1, h2, h3, h3', h3'', Vs, h4, h5⟩ := rd_sim (P := P) hM h hb
    cases hx with
    | slice _ _ _ _ q C hq _ _ _ => rw [h1] at hq; cases hq; exact ⟨Vs, fun W' hW => by simpa [Builtin.firstCells] using h4 W' hW, h5⟩
    | sliceDead _ _ _ _ A C hq _ _ => rw [h1] at hq; cases hq
    | sliceNone _ _ A hq =>
      have h0 : n = 0 := by have := hn 0 rfl; omega
      subst h0
      simp at h3'
      have : cs = [] := by cases cs with | nil => rfl | cons _ _ => simp at h3'
      subst this
      exact ⟨#[], fun W' _ => by simp [Builtin.firstCells, loadCells, loadCellsFrom], rfl, fun i h _ => by simp at h⟩
  · rename_i t
    cases h
    have := hx.str_inv; subst this
    refine ⟨(t.extract 0 n).data.map fun b => .int .u8 b.toNat, fun W' _ => by simp [Builtin.firstCells], ?_⟩
    have e : ((t.extract 0 n).data.map fun b => Value.int .u8 (b.toNat : Int)) = ((t.data.toList.take n).map fun b => Value.int .u8 (b.toNat : Int)).toArray := by
      apply Array.ext'
      simp [ByteArray.data_extract]
    rw [e]
    refine VRs.plain ?_
    refine List.all_eq_true.2 (fun x hx => ?_)
    simp only [List.map_take, List.toList_toArray] at hx
    obtain ⟨b, _, rfl⟩ := List.mem_map.1 (List.mem_of_mem_take hx)
    rfl
  · cases h
theorem len_sim {x X : Value} {m : Nat} (h : srcLen x = some m) (hx : VR ρ x X) : (Builtin.lenOf X).run P W = .ok m W := by
  unfold srcLen at h
  split at h
  · cases h
    cases hx <;> simp [Builtin.lenOf]
  · cases h
    cases hx; simp [Builtin.lenOf]
  · cases h
theorem VRs.append {a b : List Value} {A B : Array Value} (h : VRs ρ a.toArray A) (k : VRs ρ b.toArray B) : VRs ρ (a ++ b).toArray (A ++ B) := by
  obtain ⟨h1, h2⟩ := h
  obtain ⟨k1, k2⟩ := k
  simp at h1 k1
  refine ⟨by simp [h1, k1], fun i g1 g2 => ?_⟩
  simp only [List.getElem_toArray]
  simp only [List.size_toArray, List.length_append] at g1
  by_cases hlt : i < a.length
  · rw [List.getElem_append_left hlt, Array.getElem_append_left (by omega)]
    have := h2 i (by simpa using hlt) (by omega)
    simp only [List.getElem_toArray] at this; exact this
  · rw [List.getElem_append_right (by omega), Array.getElem_append_right (by omega)]
    have := k2 (i - a.length) (by simp; omega) (by omega)
    simp only [List.getElem_toArray] at this
    simp only [← h1]; exact this
theorem src_desc {T : TD} {sz : Nat} {d : TypeDesc} (h : srcKind T sz = true) (hf : T.fits d = true) : d = .string ∨ ∃ e', d = .slice e' := by
  unfold srcKind at h
  cases T <;> first | exact Bool.noConfusion h | exact .inr ⟨_, fits_slice rfl hf⟩ | exact .inl (fits_str hf)
theorem zeroCells_plain {zc : Array Value} (h : zc.toList.all plain = true) (n : Nat) : ∀ i, ∀ hi : i < (Builtin.zeroCells zc n).size, plain (Builtin.zeroCells zc n)[i] = true := by
  intro i hi
  unfold Builtin.zeroCells at hi ⊢
  simp only [Array.getElem_map, Array.getElem_range]
  simp only [Array.size_map, Array.size_range] at hi
  have h0 : 0 < zc.size := Nat.pos_of_ne_zero fun e => by rw [e] at hi; simp at hi
  have hl : i % zc.size < zc.size := Nat.mod_lt _ h0
  rw [getElem!_pos zc (i % zc.size) hl]
  exact List.all_eq_true.1 h _ (by simp)
theorem grow_sim {t u e : TypeId} {ty : TypeId} {E U : TI} {S X : Value} {base : Option Addr} {n C m : Nat} {old new : List Value} {OLD : Array Value} (hT : TOK P tt) (hM : Mem ρ H W)
    (ht : P.underlying t = some (.slice e)) (hE : tt e = some E) (hU : TOKat P u U) (hUi : srcKind U.d E.size = true) (hX : ∀ W, (Builtin.lenOf X).run P W = .ok m W)
    (hb : 0 < E.bytes ∧ E.bytes ≤ 1048576) (hz : E.zero.cells.size = E.size) (hsz : 0 < E.size) (hn : n ≤ C) (hC : C < n + m) (hbig : (n + m) * E.bytes ≤ 1099511627776)
    (hold : ∀ W', W'.heap = W.heap → (Builtin.firstCells E.size n (.slice base n C)).run P W' = .ok OLD W') (ho : VRs ρ old.toArray OLD) (hol : old.length = n * E.size)
    (hnew : ∃ NEW : Array Value, (∀ W', W'.heap = W.heap → (Builtin.firstCells E.size m X).run P W' = .ok NEW W') ∧ VRs ρ new.toArray NEW) (hnl : new.length = m * E.size) :
    ∃ (newCap : Nat) (cs : Array Value) (W1 : World), n + m ≤ newCap ∧ newCap * E.size ≤ cs.size ∧
      (Builtin.append_ #[t, u] ty #[.slice base n C, X]).run P W = .ok (.slice (some ⟨W.heap.size, 0, none⟩) (n + m) newCap) W1 ∧
      Step ρ H W (ρ.put H.length (.lies ⟨W.heap.size, 0, cs.size, E.size⟩)) (H ++ [⟨old ++ new, E.size, true⟩]) W1 := by
  have hkE := hT _ _ hE
  obtain ⟨NEW, hf, hv⟩ := hnew
  obtain ⟨info, hi1, hi2, hi3, hi4⟩ := hkE.info
  obtain ⟨d, hd1, hd2⟩ := hU.und
  have hn' : ¬ (n + m ≤ C) := by omega
  have hsmall : n + m ≤ 1099511627776 := Nat.le_trans (Nat.le_mul_of_pos_right _ hb.1) hbig
  have h63' : ¬ (9223372036854775807 < ((n : Int) + (m : Int))) := by omega
  have hfit := growslice_fits (need := n + m) (old := C) (bytes := E.bytes) hC (by omega)
  have h48' : ¬ (281474976710656 < Builtin.nextslicecap (n + m) C * info.bytes) := by rw [hi3]; omega
  have hroom : ∀ n (w : World), (askRoom n).run P w = .ok () w := by
    intro n w; unfold askRoom; split <;> simp [mark, Sem.run]
  have hg : n + m ≤ grownCap W (n + m) C e := by simp [grownCap, Question.cut]
  refine ⟨grownCap W (n + m) C e, OLD ++ NEW ++ Builtin.zeroCells E.zero.cells (grownCap W (n + m) C e - (n + m)), { W with drawn := W.drawn + 1, heap := W.heap.push (.cells (OLD ++ NEW ++ Builtin.zeroCells E.zero.cells (grownCap W (n + m) C e - (n + m))) e) }, hg, ?_, ?_, ?_⟩
  · have e1 := ho.1
    have e2 := hv.1
    simp at e1 e2
    simp only [Array.size_append, Builtin.zeroCells, Array.size_map, Array.size_range, ← e1, ← e2, hol, hnl, hz]
    rw [← Nat.add_mul, ← Nat.add_mul]
    refine Nat.le_of_eq (congrArg (· * E.size) ?_)
    omega
  · have ho' := hold (W.drew) rfl
    have hf' := hf (W.drew) rfl
    rw [← hi2] at ho' hf'
    have key : d = .string ∨ ∃ e', d = .slice e' := src_desc hUi hd2
    rcases key with rfl | ⟨e', rfl⟩ <;>
    · simp [Builtin.append_, run_underlying ht, run_underlying hd1, sizeOf, typeInfo, zeroValue, hi1, hi4, hX, hn', h63', h48', Question.forced, hf', ho', newRow, grownCap]
      try rfl
  · have s1 := Step.same (W' := W.drew) hM rfl rfl rfl rfl
    have s2 := Step.row (W := W.drew) s1.mem ⟨old ++ new, E.size, true⟩ (OLD ++ NEW ++ Builtin.zeroCells E.zero.cells (grownCap W (n + m) C e - (n + m))) e hsz
    refine s1.trans (Step.alloc s1.mem ⟨old ++ new, E.size, true⟩ _ e hsz ?_ ?_ ?_)
    · have e1 := ho.1
      have e2 := hv.1
      simp at e1 e2
      simp [e1, e2]
    · intro i v hi
      obtain ⟨V, g1, g2⟩ := (ho.append hv).get (i := i) (v := v) (by simpa using hi)
      refine ⟨V, ?_, g2⟩
      rw [Array.getElem?_append_left (Array.getElem?_eq_some_iff.1 g1).1]; exact g1
    · intro i V h1 h2
      have e1 := ho.1
      have e2 := hv.1
      simp at e1 e2 h1
      rw [Array.getElem?_append_right (by simp; omega)] at h2
      obtain ⟨h3, h4⟩ := Array.getElem?_eq_some_iff.1 h2
      rw [← h4]
      exact zeroCells_plain hkE.pl _ _ h3
theorem make_sim0 {t u e : TypeId} {ty : TypeId} {E : TI} {m : Nat} (hT : TOK P tt) (hM : Mem ρ H W)
    (ht : P.underlying t = some (.slice e)) (hE : tt e = some E) (hU : P.underlying u = some (.int .i64))
    (hb : 0 < E.bytes ∧ E.bytes ≤ 1048576) (hz : E.zero.cells.size = E.size) (hsz : 0 < E.size) (hm0 : 0 < m) (hbig : m * E.bytes ≤ 1099511627776) :
    ∃ (newCap : Nat) (cs : Array Value) (W1 : World), m ≤ newCap ∧ newCap * E.size ≤ cs.size ∧
      (Builtin.append_ #[t, u] ty #[.slice none 0 0, .int .i64 (m : Nat)]).run P W = .ok (.slice (some ⟨W.heap.size, 0, none⟩) m newCap) W1 ∧
      Step ρ H W (ρ.put H.length (.lies ⟨W.heap.size, 0, cs.size, E.size⟩)) (H ++ [⟨zerosL E.zero.cells.toList (m * E.size), E.size, true⟩]) W1 := by
  have hkE := hT _ _ hE
  have hbig : (0 + m) * E.bytes ≤ 1099511627776 := by simpa using hbig
  obtain ⟨info, hi1, hi2, hi3, hi4⟩ := hkE.info
  have hn' : ¬ (0 + m ≤ 0) := by omega
  have hsmall : 0 + m ≤ 1099511627776 := Nat.le_trans (Nat.le_mul_of_pos_right _ hb.1) hbig
  have hmb : m * E.bytes ≤ (0 + m) * E.bytes := Nat.mul_le_mul_right _ (by omega)
  have hw : IntKind.i64.wrap (m : Int) = (m : Int) := wrap_id (by omega) (by omega)
  have h63' : ¬ (9223372036854775807 < ((0 : Int) + (m : Int))) := by omega
  have hfit := growslice_fits (need := 0 + m) (old := 0) (bytes := E.bytes) (by omega) (by omega)
  have h48' : ¬ (281474976710656 < Builtin.nextslicecap (0 + m) 0 * info.bytes) := by rw [hi3]; omega
  have h48'' : ¬ ((m : Int) * (info.bytes : Int) > 281474976710656) := by
    rw [hi3]
    have : ((m * E.bytes : Nat) : Int) ≤ 1099511627776 := by omega
    rw [Int.natCast_mul] at this
    omega
  have hm1 : ¬ ((m : Int) < 0) := by omega
  have hms : ¬ (m * info.size = 0) := by
    rw [hi2]
    have := Nat.mul_pos hm0 hsz
    omega
  have hms' : ¬ (m = 0 ∨ info.size = 0) := by rw [hi2]; omega
  have hg : 0 + m ≤ grownCap W (0 + m) 0 e := by simp [grownCap, Question.cut]
  have hv : VRs ρ (zerosL E.zero.cells.toList (m * E.size)).toArray (Builtin.zeroCells E.zero.cells m) := by
    unfold Builtin.zeroCells
    rw [hz]
    have := zeros_sim (ρ := ρ) (zc := E.zero.cells.toList) (Z := E.zero.cells) rfl hkE.pl (m * E.size)
    rw [hz] at this
    exact this
  have ho0 : VRs ρ ([] : List Value).toArray #[] := ⟨rfl, fun i h _ => by simp at h⟩
  have hnl : (zerosL E.zero.cells.toList (m * E.size)).length = m * E.size := by simp [zerosL]
  refine ⟨grownCap W (0 + m) 0 e, #[] ++ Builtin.zeroCells E.zero.cells m ++ Builtin.zeroCells E.zero.cells (grownCap W (0 + m) 0 e - (0 + m)), { W with drawn := W.drawn + 1, heap := W.heap.push (.cells (#[] ++ Builtin.zeroCells E.zero.cells m ++ Builtin.zeroCells E.zero.cells (grownCap W (0 + m) 0 e - (0 + m))) e) }, by simpa using hg, ?_, ?_, ?_⟩
  · simp only [Array.size_append, Builtin.zeroCells, Array.size_map, Array.size_range, hz, List.size_toArray, List.length_nil, Nat.zero_add]
    rw [← Nat.add_mul]
    refine Nat.le_of_eq (congrArg (· * E.size) ?_)
    simp only [Nat.zero_add] at hg
    omega
  · have h63x : ¬ (9223372036854775807 < (m : Int)) := by omega
    have h0x : ¬ m = 0 := by omega
    have h48x := h48'
    rw [Nat.zero_add] at h48x
    simp [h63x, h0x, h48x, Builtin.append_, run_underlying ht, run_underlying hU, sizeOf, typeInfo, zeroValue, asInt, asIntOf, hi1, hi4, hn', h63', h48', h48'', hw, hm1, hms, hms', Question.forced, newRow, grownCap, Builtin.firstCells]
    try rfl
  · have s1 := Step.same (W' := W.drew) hM rfl rfl rfl rfl
    have key : ∀ cs : Array Value, cs = Builtin.zeroCells E.zero.cells m ++ Builtin.zeroCells E.zero.cells (grownCap W (0 + m) 0 e - (0 + m)) → Step ρ H W (ρ.put H.length (.lies ⟨W.heap.size, 0, cs.size, E.size⟩)) (H ++ [⟨zerosL E.zero.cells.toList (m * E.size), E.size, true⟩]) { W with drawn := W.drawn + 1, heap := W.heap.push (.cells cs e) } := by
      intro cs hcs
      refine s1.trans (Step.alloc s1.mem ⟨zerosL E.zero.cells.toList (m * E.size), E.size, true⟩ _ e hsz ?_ ?_ ?_)
      · have e2 := hv.1
        simp at e2
        simp [hcs, e2]
      · intro i v hi
        obtain ⟨V, g1, g2⟩ := hv.get (i := i) (v := v) (by simpa using hi)
        refine ⟨V, ?_, g2⟩
        rw [hcs, Array.getElem?_append_left (Array.getElem?_eq_some_iff.1 g1).1]; exact g1
      · intro i V h1 h2
        have e2 := hv.1
        simp at e2 h1
        rw [hcs, Array.getElem?_append_right (by omega)] at h2
        obtain ⟨h3, h4⟩ := Array.getElem?_eq_some_iff.1 h2
        rw [← h4]
        exact zeroCells_plain hkE.pl _ _ h3
    exact key _ (by simp)
theorem make_sim {t u e : TypeId} {ty : TypeId} {E : TI} {A : Addr} {n C m : Nat} {old : List Value} {OLD : Array Value} (hT : TOK P tt) (hM : Mem ρ H W)
    (ht : P.underlying t = some (.slice e)) (hE : tt e = some E) (hU : P.underlying u = some (.int .i64))
    (hb : 0 < E.bytes ∧ E.bytes ≤ 1048576) (hz : E.zero.cells.size = E.size) (hsz : 0 < E.size) (hn : n ≤ C) (hC : C < n + m) (hbig : (n + m) * E.bytes ≤ 1099511627776)
    (hold : ∀ W', W'.heap = W.heap → (loadCells A (n * E.size)).run P W' = .ok OLD W') (ho : VRs ρ old.toArray OLD) (hol : old.length = n * E.size) :
    ∃ (newCap : Nat) (cs : Array Value) (W1 : World), n + m ≤ newCap ∧ newCap * E.size ≤ cs.size ∧
      (Builtin.append_ #[t, u] ty #[.slice (some A) n C, .int .i64 (m : Nat)]).run P W = .ok (.slice (some ⟨W.heap.size, 0, none⟩) (n + m) newCap) W1 ∧
      Step ρ H W (ρ.put H.length (.lies ⟨W.heap.size, 0, cs.size, E.size⟩)) (H ++ [⟨old ++ zerosL E.zero.cells.toList (m * E.size), E.size, true⟩]) W1 := by
  have hkE := hT _ _ hE
  obtain ⟨info, hi1, hi2, hi3, hi4⟩ := hkE.info
  have hn' : ¬ (n + m ≤ C) := by omega
  have hm0 : 0 < m := by omega
  have hsmall : n + m ≤ 1099511627776 := Nat.le_trans (Nat.le_mul_of_pos_right _ hb.1) hbig
  have hmb : m * E.bytes ≤ (n + m) * E.bytes := Nat.mul_le_mul_right _ (by omega)
  have hw : IntKind.i64.wrap (m : Int) = (m : Int) := wrap_id (by omega) (by omega)
  have h63' : ¬ (9223372036854775807 < ((n : Int) + (m : Int))) := by omega
  have hfit := growslice_fits (need := n + m) (old := C) (bytes := E.bytes) hC (by omega)
  have h48' : ¬ (281474976710656 < Builtin.nextslicecap (n + m) C * info.bytes) := by rw [hi3]; omega
  have h48'' : ¬ ((m : Int) * (info.bytes : Int) > 281474976710656) := by
    rw [hi3]
    have : ((m * E.bytes : Nat) : Int) ≤ 1099511627776 := by omega
    rw [Int.natCast_mul] at this
    omega
  have hm1 : ¬ ((m : Int) < 0) := by omega
  have hms : ¬ (m * info.size = 0) := by
    rw [hi2]
    have := Nat.mul_pos hm0 hsz
    omega
  have hms' : ¬ (m = 0 ∨ info.size = 0) := by rw [hi2]; omega
  have hg : n + m ≤ grownCap W (n + m) C e := by simp [grownCap, Question.cut]
  have hv : VRs ρ (zerosL E.zero.cells.toList (m * E.size)).toArray (Builtin.zeroCells E.zero.cells m) := by
    unfold Builtin.zeroCells
    rw [hz]
    have := zeros_sim (ρ := ρ) (zc := E.zero.cells.toList) (Z := E.zero.cells) rfl hkE.pl (m * E.size)
    rw [hz] at this
    exact this
  have hnl : (zerosL E.zero.cells.toList (m * E.size)).length = m * E.size := by simp [zerosL]
  refine ⟨grownCap W (n + m) C e, OLD ++ Builtin.zeroCells E.zero.cells m ++ Builtin.zeroCells E.zero.cells (grownCap W (n + m) C e - (n + m)), { W with drawn := W.drawn + 1, heap := W.heap.push (.cells (OLD ++ Builtin.zeroCells E.zero.cells m ++ Builtin.zeroCells E.zero.cells (grownCap W (n + m) C e - (n + m))) e) }, hg, ?_, ?_, ?_⟩
  · have e1 := ho.1
    simp at e1
    simp only [Array.size_append, Builtin.zeroCells, Array.size_map, Array.size_range, ← e1, hol, hz]
    rw [← Nat.add_mul, ← Nat.add_mul]
    refine Nat.le_of_eq (congrArg (· * E.size) ?_)
    omega
  · have ho' := hold (W.drew) rfl
    rw [← hi2] at ho'
    simp [Builtin.append_, run_underlying ht, run_underlying hU, sizeOf, typeInfo, zeroValue, asInt, asIntOf, hi1, hi4, hn', h63', h48', h48'', hw, hm1, hms, hms', Question.forced, ho', newRow, grownCap, Builtin.firstCells]
    try rfl
  · have s1 := Step.same (W' := W.drew) hM rfl rfl rfl rfl
    refine s1.trans (Step.alloc s1.mem ⟨old ++ zerosL E.zero.cells.toList (m * E.size), E.size, true⟩ _ e hsz ?_ ?_ ?_)
    · have e1 := ho.1
      have e2 := hv.1
      simp at e1 e2
      simp [e1, e2]
    · intro i v hi
      obtain ⟨V, g1, g2⟩ := (ho.append hv).get (i := i) (v := v) (by simpa using hi)
      refine ⟨V, ?_, g2⟩
      rw [Array.getElem?_append_left (Array.getElem?_eq_some_iff.1 g1).1]; exact g1
    · intro i V h1 h2
      have e1 := ho.1
      have e2 := hv.1
      simp at e1 e2 h1
      rw [Array.getElem?_append_right (by simp; omega)] at h2
      obtain ⟨h3, h4⟩ := Array.getElem?_eq_some_iff.1 h2
      rw [← h4]
      exact zeroCells_plain hkE.pl _ _ h3
theorem append_room {t u e : TypeId} {ty : TypeId} {E U : TI} {X : Value} {A : Addr} {n C m : Nat} {NEW : Array Value} {W' : World} (hE : TOKat P e E)
    (ht : P.underlying t = some (.slice e)) (hU : TOKat P u U) (hUi : srcKind U.d E.size = true) (hX : ∀ W, (Builtin.lenOf X).run P W = .ok m W)
    (hC : n + m ≤ C) (hf : (Builtin.firstCells E.size m X).run P W = .ok NEW W) (hst : (storeCells (A.add (n * E.size)) NEW.toList).run P W = .ok () W') :
    (Builtin.append_ #[t, u] ty #[.slice (some A) n C, X]).run P W = .ok (.slice (some A) (n + m) C) W' := by
  obtain ⟨info, hi1, hi2, hi3, hi4⟩ := hE.info
  obtain ⟨d, hd1, hd2⟩ := hU.und
  rw [← hi2] at hf hst
  have key : d = .string ∨ ∃ e', d = .slice e' := src_desc hUi hd2
  rcases key with rfl | ⟨e', rfl⟩ <;>
  · simp [Builtin.append_, run_underlying ht, run_underlying hd1, sizeOf, typeInfo, hi1, hX, hC, hf, hst]
theorem append_nothing {t u e : TypeId} {ty : TypeId} {E U : TI} {X : Value} {base : Option Addr} {n C : Nat} (hE : TOKat P e E)
    (ht : P.underlying t = some (.slice e)) (hU : TOKat P u U) (hUi : srcKind U.d E.size = true) (hX : ∀ W, (Builtin.lenOf X).run P W = .ok 0 W)
    (hC : n ≤ C) (hf : ∃ NEW : Array Value, (Builtin.firstCells E.size 0 X).run P W = .ok NEW W ∧ NEW.size = 0) :
    (Builtin.append_ #[t, u] ty #[.slice base n C, X]).run P W = .ok (.slice base n C) W := by
  obtain ⟨info, hi1, hi2, hi3, hi4⟩ := hE.info
  obtain ⟨d, hd1, hd2⟩ := hU.und
  obtain ⟨NEW, hf, h0⟩ := hf
  have : NEW = #[] := Array.eq_empty_of_size_eq_zero h0
  subst this
  rw [← hi2] at hf
  have key : d = .string ∨ ∃ e', d = .slice e' := src_desc hUi hd2
  rcases key with rfl | ⟨e', rfl⟩ <;> cases base <;>
  · simp [Builtin.append_, run_underlying ht, run_underlying hd1, sizeOf, typeInfo, hi1, hX, hC, hf, storeCells]
theorem append_sim {tys : List TypeId} {ty : TypeId} {s x S X v : Value} {H1 : Heap} (hT : TOK P tt) (hM : Mem ρ H W) (h : aAppend tt H tys s x = some (v, H1)) (hs : VR ρ s S) (hx : VR ρ x X) :
    ∃ V ρ1 W1, (Builtin.append_ tys.toArray ty #[S, X]).run P W = .ok V W1 ∧ VR ρ1 v V ∧ Step ρ H W ρ1 H1 W1 := by
  unfold aAppend at h
  split at h
  · rename_i t u
    split at h
    · rename_i e sz bt z ek U hT' hU'
      have hk := hT _ _ hT'
      have hkU := hT _ _ hU'
      obtain ⟨d, hd1, hd2⟩ := hk.und
      have := fits_slice rfl hd2; subst this
      split at h
      · rename_i E m hE hlen
        have hkE := hT _ _ hE
        split at h
        · rename_i hc
          obtain ⟨c1, c2, c3, c4, c5⟩ := hc
          split at h
          · rename_i new hnew
            split at h
            · rename_i hc2
              obtain ⟨hnl, hcell⟩ := hc2
              have hX : ∀ W, (Builtin.lenOf X).run P W = .ok m W := fun W => len_sim hlen hx
              have hsrc := src_sim (P := P) hM hnew hx (fun k hk => by rw [hlen] at hk; cases hk; exact Nat.le_refl _)
              obtain ⟨NEW, hf, hv⟩ := hsrc
              split at h
              · -- a nil slice
                have hS : S = .slice none 0 0 := by cases hs; rfl
                subst hS
                split at h
                · rename_i h0
                  subst h0
                  cases h
                  refine ⟨_, ρ, W, append_nothing hkE hd1 hkU c2 hX (Nat.le_refl _) ⟨NEW, hf W rfl, ?_⟩, .nilslice, .refl hM⟩
                  have := hv.1; simp at this; simp at hnl; rw [← this, hnl]; rfl
                · rename_i h0
                  split at h
                  · rename_i hbig
                    cases h
                    obtain ⟨newCap, cs, W1, g1, g2, g3, g4⟩ := grow_sim (ty := ty) (S := x) (old := []) (OLD := #[]) (n := 0) (C := 0) (base := none) hT hM hd1 hE hkU c2 hX ⟨c3, c4⟩ (c5 (by omega)) c1 (Nat.le_refl _) (by omega) (by simpa using hbig)
                      (fun W' _ => by simp [Builtin.firstCells]) ⟨rfl, fun i h _ => by simp at h⟩ (by simp) ⟨NEW, hf, hv⟩ hnl
                    simp only [Nat.zero_add, List.nil_append] at g1 g3 g4
                    exact ⟨_, _, W1, g3, .slice H.length 0 m 0 ⟨W.heap.size, 0, cs.size, E.size⟩ newCap (Inj.put_same _ _ _) g1 (.inl rfl) (fun _ => by simpa using g2), g4⟩
                  · cases h
              · rename_i b i n c
                have hVc : ∃ A C, S = .slice (some A) n C ∧ n ≤ C := by
                  cases hs with
                  | slice _ _ _ _ p C hp q1 q2 q3 => exact ⟨_, _, rfl, q1⟩
                  | sliceNone _ _ A hp => exact ⟨_, _, rfl, Nat.le_refl _⟩
                  | sliceDead _ _ _ _ A C hp q1 q2 => exact ⟨_, _, rfl, q1⟩
                split at h
                · rename_i h0
                  subst h0
                  cases h
                  obtain ⟨A, C, rfl, hC⟩ := hVc
                  refine ⟨_, ρ, W, append_nothing hkE hd1 hkU c2 hX hC ⟨NEW, hf W rfl, ?_⟩, hs, .refl hM⟩
                  have := hv.1; simp at this; simp at hnl; rw [← this, hnl]; rfl
                · rename_i h0
                  split at h
                  · rename_i hbig
                    split at h
                    · -- within the capacity that is known
                      rename_i hfit
                      rw [Option.map_eq_some_iff] at h
                      obtain ⟨H', hw, he⟩ := h
                      cases he
                      have hb : ρ b ≠ none := by cases hs <;> simp_all
                      obtain ⟨p, W', k1, k2, k3⟩ := wr_sim (P := P) hM hw hb hv
                      cases hs with
                      | slice _ _ _ _ q C hq q1 q2 q3 =>
                        rw [k1] at hq; cases hq
                        have hC : C = c := q2.resolve_left hfit.1
                        subst hC
                        refine ⟨_, ρ, W', append_room hkE hd1 hkU c2 hX hfit.2 (hf W rfl) (by rw [Addr.add_mk, Nat.add_assoc]; exact k2), .slice b i _ _ p C k1 hfit.2 (.inr rfl) (fun hz => absurd hz hfit.1), k3⟩
                      | sliceNone _ _ A hp => exact absurd rfl hfit.1
                      | sliceDead _ _ _ _ A C hp q1 q2 => rw [k1] at hp; cases hp
                    · rename_i hfit
                      split at h
                      · rename_i old B hold hB
                        have hb : ρ b ≠ none := by cases hs <;> simp_all
                        obtain ⟨p, B0, k1, k2, k3, k4, k5, OLD, k6, k7⟩ := rd_sim (P := P) hM hold hb
                        obtain rfl : B0 = B := by rw [hB] at k2; exact (Option.some.inj k2).symm
                        have hp0 := hM.lies b p k1
                        obtain ⟨B1, hB1, L⟩ := hp0
                        obtain rfl : B1 = B0 := by rw [hB] at hB1; exact (Option.some.inj hB1).symm
                        have growth : ∀ (A : Addr) (C : Nat), n ≤ C → C < n + m → (n = 0 ∨ A = ⟨p.blk, p.off + i, none⟩) → ∃ (newCap : Nat) (cs : Array Value) (W1 : World), n + m ≤ newCap ∧ newCap * E.size ≤ cs.size ∧
                            (Builtin.append_ #[t, u] ty #[.slice (some A) n C, X]).run P W = .ok (.slice (some ⟨W.heap.size, 0, none⟩) (n + m) newCap) W1 ∧
                            Step ρ H W (ρ.put H.length (.lies ⟨W.heap.size, 0, cs.size, E.size⟩)) (H ++ [⟨old ++ new, E.size, true⟩]) W1 := by
                          intro A C hC1 hC2 hA
                          refine grow_sim (ty := ty) (S := x) (OLD := OLD) hT hM hd1 hE hkU c2 hX ⟨c3, c4⟩ (c5 (by omega)) c1 hC1 hC2 hbig (fun W' hW => ?_) k7 k4 ⟨NEW, hf, hv⟩ hnl
                          rcases hA with rfl | rfl
                          · have : OLD = #[] := by
                              apply Array.eq_empty_of_size_eq_zero
                              have := k7.1; simp at this; simp at k4; rw [← this, k4]; rfl
                            subst this
                            simp [Builtin.firstCells, loadCells, loadCellsFrom]
                          · simpa [Builtin.firstCells] using k6 W' hW
                        split at h
                        · -- the capacity is known, and is passed
                          rename_i hcne
                          cases h
                          have hfit' : c < n + m := by omega
                          cases hs with
                          | slice _ _ _ _ q C hq q1 q2 q3 =>
                            rw [k1] at hq; cases hq
                            have hC : C = c := q2.resolve_left hcne
                            subst hC
                            obtain ⟨newCap, cs, W1, g1, g2, g3, g4⟩ := growth _ C q1 hfit' (.inr rfl)
                            exact ⟨_, _, W1, g3, .slice H.length 0 _ 0 ⟨W.heap.size, 0, cs.size, E.size⟩ newCap (Inj.put_same _ _ _) g1 (.inl rfl) (fun _ => by simpa using g2), g4⟩
                          | sliceNone _ _ A hp => exact absurd rfl hcne
                          | sliceDead _ _ _ _ A C hp q1 q2 => rw [k1] at hp; cases hp
                        · rename_i hcz
                          have hcz' : c = 0 := by omega
                          subst hcz'
                          split at h
                          · rename_i hown
                            cases h
                            have case_grow : ∀ (A : Addr) (C : Nat), S = .slice (some A) n C → n ≤ C → C < n + m → (n = 0 ∨ A = ⟨p.blk, p.off + i, none⟩) →
                                ∃ V ρ1 W1, (Builtin.append_ #[t, u] ty #[S, X]).run P W = .ok V W1 ∧ VR ρ1 (.slice (some ⟨H.length, 0, none⟩) (n + m) 0) V ∧ Step ρ H W ρ1 (H.set b deadBlk ++ [⟨old ++ new, E.size, true⟩]) W1 := by
                              rintro A C rfl hC1 hC2 hA
                              obtain ⟨newCap, cs, W1, g1, g2, g3, g4⟩ := growth A C hC1 hC2 hA
                              have hbl : b < H.length := hM.dom b hb
                              have hb' : (ρ.put H.length (.lies ⟨W.heap.size, 0, cs.size, E.size⟩)) b = some (.lies p) := by rw [Inj.put_other _ _ (by omega)]; exact k1
                              have s2 := Step.kill g4.mem hb'
                              refine ⟨_, (ρ.put H.length (.lies ⟨W.heap.size, 0, cs.size, E.size⟩)).put b .dead, W1, g3, ?_, ?_⟩
                              · refine .slice H.length 0 _ 0 ⟨W.heap.size, 0, cs.size, E.size⟩ newCap ?_ g1 (.inl rfl) (fun _ => by simpa using g2)
                                rw [Inj.put_other _ _ (by omega), Inj.put_same]
                              · have := g4.trans s2
                                rwa [List.set_append_left _ _ hbl] at this
                            cases hs with
                            | slice _ _ _ _ q C hq q1 q2 q3 =>
                              rw [k1] at hq; cases hq
                              by_cases hroom : n + m ≤ C
                              · -- it fits: the same place under a new name
                                have s1 := Step.retarget hM (i := i) (m := n * E.size) k1 hB hown.1 k5 hown.2.2 (fun _ _ => plain_vr)
                                rw [← k3] at s1
                                have q3' := q3 rfl
                                rw [L.esz, hown.2.1] at q3'
                                have hHl : (H.set b deadBlk).length = H.length := by simp
                                have hnB : (H.set b deadBlk ++ [(⟨old, B1.esz, true⟩ : Blk)])[H.length]? = some ⟨old, B1.esz, true⟩ := by
                                  rw [List.getElem?_append_right (by simp)]; simp
                                have hmul : (n + m) * E.size ≤ C * E.size := Nat.mul_le_mul_right _ hroom
                                obtain ⟨W', r1, r2⟩ := Step.write (P := P) (b := H.length) (i0 := n * E.size) (p := ⟨p.blk, p.off + i, p.ext - i, p.esz⟩) (Inj.put_same _ _ _) new NEW.toList 0 s1.mem hnB rfl
                                  (by simp [k4]) (by simp [hnl]; rw [← Nat.add_mul]; omega) (by have := hv.1; simpa using this)
                                  (fun k h1 h2 => ⟨by
                                    have := (hv.mono s1.le).2 k (by simpa using h1) (by simpa using h2)
                                    rw [List.getElem_toArray] at this; simpa using this, List.all_eq_true.1 hcell _ (List.getElem_mem h1)⟩)
                                refine ⟨.slice (some ⟨p.blk, p.off + i, none⟩) (n + m) C, (ρ.put b .dead).put H.length (.lies ⟨p.blk, p.off + i, p.ext - i, p.esz⟩), W', append_room hkE hd1 hkU c2 hX hroom (hf W rfl) (by rw [Addr.add_mk]; exact r1), ?_, ?_⟩
                                · refine .slice H.length 0 (n + m) 0 ⟨p.blk, p.off + i, p.ext - i, p.esz⟩ C (Inj.put_same _ _ _) hroom (.inl rfl) (fun _ => ?_)
                                  show 0 + C * p.esz ≤ p.ext - i
                                  rw [L.esz, hown.2.1]; omega
                                · have s3 := s1.trans r2
                                  have e1 : splice old (n * E.size + 0) new = old ++ new := by
                                    unfold splice
                                    rw [Nat.add_zero, List.take_of_length_le (by omega), List.drop_of_length_le (by omega), List.append_nil]
                                  simp only [e1] at s3
                                  have e2 : (H.set b deadBlk ++ [(⟨old, B1.esz, true⟩ : Blk)]).set H.length ⟨old ++ new, B1.esz, true⟩ = H.set b deadBlk ++ [⟨old ++ new, E.size, true⟩] := by
                                    rw [List.set_append_right _ _ (by simp), hHl, hown.2.1]; simp
                                  rw [e2] at s3
                                  exact s3
                              · exact case_grow _ C rfl q1 (by omega) (.inr rfl)
                            | sliceNone _ _ A hp => exact case_grow A 0 rfl (Nat.le_refl _) (by omega) (.inl rfl)
                            | sliceDead _ _ _ _ A C hp q1 q2 => rw [k1] at hp; cases hp
                          · cases h
                      · cases h
                  · cases h
              · cases h
            · cases h
          · cases h
        · cases h
      · -- new zero values
        rename_i E hE hlen
        have hkE := hT _ _ hE
        unfold aAppMake at h
        split at h
        · rename_i b i n c k
          split at h
          · rename_i hc
            obtain ⟨c1, c2, c3, c4, c5, c6, c7, c8, c9⟩ := hc
            split at h
            · rename_i old hold
              cases h
              have hX := hx.int_inv
              subst hX
              have hUd : P.underlying u = some (.int .i64) := by
                obtain ⟨d', g1, g2⟩ := hkU.und
                rw [g1]
                generalize U.d = ud at c2 g2
                unfold TD.isI64 at c2
                split at c2
                · cases d' <;> simp [TD.fits] at g2
                  rw [← g2]
                · cases c2
              have hb : ρ b ≠ none := by cases hs <;> simp_all
              obtain ⟨p, B0, k1, k2, k3, k4, k5, OLD, k6, k7⟩ := rd_sim (P := P) hM hold hb
              cases hs with
              | slice _ _ _ _ q C hq q1 q2 q3 =>
                rw [k1] at hq; cases hq
                have hC : C = c := q2.resolve_left c6
                subst hC
                obtain ⟨newCap, cs, W1, g1, g2, g3, g4⟩ := make_sim (ty := ty) (m := k.toNat) hT hM hd1 hE hUd ⟨c3, c4⟩ c5 c1 q1 c8 c9 k6 k7 k4
                rw [Int.toNat_of_nonneg c7] at g3
                exact ⟨_, _, W1, g3, .slice H.length 0 _ 0 ⟨W.heap.size, 0, cs.size, E.size⟩ newCap (Inj.put_same _ _ _) g1 (.inl rfl) (fun _ => by simpa using g2), g4⟩
              | sliceNone _ _ A hp => exact absurd rfl c6
              | sliceDead _ _ _ _ A C hp q1 q2 => rw [k1] at hp; cases hp
            · cases h
          · cases h
        · rename_i k
          split at h
          · rename_i hc
            obtain ⟨c1, c2, c3, c4, c5, c6, c7⟩ := hc
            cases h
            have hX := hx.int_inv
            subst hX
            have hUd : P.underlying u = some (.int .i64) := by
              obtain ⟨d', g1, g2⟩ := hkU.und
              rw [g1]
              generalize U.d = ud at c2 g2
              unfold TD.isI64 at c2
              split at c2
              · cases d' <;> simp [TD.fits] at g2
                rw [← g2]
              · cases c2
            cases hs
            obtain ⟨newCap, cs, W1, g1, g2, g3, g4⟩ := make_sim0 (ty := ty) (m := k.toNat) hT hM hd1 hE hUd ⟨c3, c4⟩ c5 c1 (by omega) c7
            rw [Int.toNat_of_nonneg (by omega)] at g3
            exact ⟨_, _, W1, g3, .slice H.length 0 _ 0 ⟨W.heap.size, 0, cs.size, E.size⟩ newCap (Inj.put_same _ _ _) g1 (.inl rfl) (fun _ => by simpa using g2), g4⟩
          · cases h
        · cases h
      · cases h
    · cases h
  · cases h
end
end Go.Fw
namespace Go.Fw
open Go
section
variable {P : Program} {tt : TT} {ρ : Inj} {H : Heap} {W : World}
theorem copy_sim {tys : List TypeId} {ty : TypeId} {d x D X v : Value} {H1 : Heap} (hT : TOK P tt) (hM : Mem ρ H W) (h : aCopy tt H tys d x = some (v, H1)) (hd : VR ρ d D) (hx : VR ρ x X) :
    ∃ V ρ1 W1, (Builtin.copy_ tys.toArray ty #[D, X]).run P W = .ok V W1 ∧ VR ρ1 v V ∧ Step ρ H W ρ1 H1 W1 := by
  unfold aCopy at h
  split at h
  · rename_i t rest
    split at h
    · rename_i e sz bt z ek hT'
      have hk := hT _ _ hT'
      obtain ⟨dd, hd1, hd2⟩ := hk.und
      have := fits_slice rfl hd2; subst this
      split at h
      · rename_i E m b i n c hE hlen
        have hkE := hT _ _ hE
        have hX : ∀ W, (Builtin.lenOf X).run P W = .ok m W := fun W => len_sim hlen hx
        split at h
        · rename_i new hnew
          split at h
          · rename_i hc
            rw [Option.map_eq_some_iff] at h
            obtain ⟨H', hw, he⟩ := h
            cases he
            obtain ⟨NEW, hf, hv⟩ := src_sim (P := P) hM hnew hx (fun k hk => by rw [hlen] at hk; cases hk; exact Nat.min_le_left _ _)
            have hb : ρ b ≠ none := by cases hd <;> simp_all
            obtain ⟨p, W', k1, k2, k3⟩ := wr_sim (P := P) hM hw hb hv
            have hmin : Nat.min m n = min m n := rfl
            cases hd with
            | slice _ _ _ _ q C hq q1 q2 q3 =>
              rw [k1] at hq; cases hq
              refine ⟨_, ρ, W', ?_, .int .i64 _, k3⟩
              have hf' := hf W rfl
              simp [Builtin.copy_, run_underlying hd1, hX, run_size hkE, hmin, hf', k2, goInt]
            | sliceNone _ _ A hp =>
              have e0 : min m 0 = 0 := by omega
              have hN : NEW = #[] := by
                apply Array.eq_empty_of_size_eq_zero
                have h1 := hv.1
                have h2 := hc.1
                simp [e0] at h2
                simp [h2] at h1
                exact h1.symm
              subst hN
              have hnw : new = [] := by
                have h2 := hc.1
                simp [e0] at h2; exact h2
              subst hnw
              simp [storeCells] at k2
              subst k2
              have hf' := hf W rfl
              refine ⟨.int .i64 (min m 0 : Nat), ρ, W, ?_, .int .i64 _, k3⟩
              simp only [e0] at hf'
              simp [Builtin.copy_, run_underlying hd1, hX, run_size hkE, hmin, e0, hf', storeCells, goInt]
            | sliceDead _ _ _ _ A C hp q1 q2 => rw [k1] at hp; cases hp
          · cases h
        · cases h
      · rename_i E m hE hlen
        cases h
        have hkE := hT _ _ hE
        have hX : ∀ W, (Builtin.lenOf X).run P W = .ok m W := fun W => len_sim hlen hx
        have hD : D = .slice none 0 0 := by cases hd; rfl
        subst hD
        have hf : ∃ (C : Array Value), (Builtin.firstCells E.size 0 X).run P W = .ok C W := by
          unfold srcLen at hlen
          split at hlen
          · cases hx <;> simp [Builtin.firstCells, loadCells, loadCellsFrom]
          · cases hx; simp [Builtin.firstCells]
          · cases hlen
        obtain ⟨C, hf⟩ := hf
        have hmin : Nat.min m 0 = 0 := Nat.min_zero m
        refine ⟨_, ρ, W, ?_, .int .i64 0, .refl hM⟩
        simp [Builtin.copy_, run_underlying hd1, hX, run_size hkE, hmin, hf, goInt]
      · cases h
    · cases h
  · cases h
theorem clear_sim {tys : List TypeId} {ty : TypeId} {x X v : Value} {H1 : Heap} (hT : TOK P tt) (hM : Mem ρ H W) (h : aClear tt H tys x = some (v, H1)) (hx : VR ρ x X) :
    ∃ V ρ1 W1, (Builtin.clear_ tys.toArray ty #[X]).run P W = .ok V W1 ∧ VR ρ1 v V ∧ Step ρ H W ρ1 H1 W1 := by
  unfold aClear at h
  split at h
  · rename_i t rest
    split at h
    · rename_i e sz bt z ek hT'
      have hk := hT _ _ hT'
      obtain ⟨dd, hd1, hd2⟩ := hk.und
      have := fits_slice rfl hd2; subst this
      split at h
      · rename_i E b i n c hE
        have hkE := hT _ _ hE
        split at h
        · rename_i hc
          rw [Option.map_eq_some_iff] at h
          obtain ⟨H', hw, he⟩ := h
          cases he
          have hv : VRs ρ (zerosL E.zero.cells.toList (n * E.size)).toArray (Builtin.zeroCells E.zero.cells n) := by
            unfold Builtin.zeroCells
            rw [hc.2]
            exact hc.2 ▸ zeros_sim rfl hkE.pl _
          have hb : ρ b ≠ none := by cases hx <;> simp_all
          obtain ⟨p, W', k1, k2, k3⟩ := wr_sim (P := P) hM hw hb hv
          cases hx with
          | slice _ _ _ _ q C hq q1 q2 q3 =>
            rw [k1] at hq; cases hq
            refine ⟨.tuple #[], ρ, W', ?_, VR.undef ρ, k3⟩
            obtain ⟨m, hm⟩ : ∃ m, n = m + 1 := ⟨n - 1, by omega⟩
            subst hm
            simp [Builtin.clear_, run_underlying hd1, run_zero hkE, k2]
          | sliceNone _ _ A hp => exact absurd hc.1 (by decide)
          | sliceDead _ _ _ _ A C hp q1 q2 => rw [k1] at hp; cases hp
        · cases h
      · cases h
    · cases h
  · cases h
theorem len_sim' {tys : List TypeId} {ty : TypeId} {x X v : Value} (hT : TOK P tt) (h : aLen tt tys x = some v) (hx : VR ρ x X) :
    ∃ V, (Builtin.len_ tys.toArray ty #[X]).run P W = .ok V W ∧ VR ρ v V := by
  unfold aLen at h
  split at h
  · rename_i t rest
    split at h
    · rename_i s sz bt z ek hT'
      cases h
      obtain ⟨dd, hd1, hd2⟩ := (hT _ _ hT').und
      have := fits_str hd2; subst this
      have := hx.str_inv; subst this
      exact ⟨_, by simp [Builtin.len_, run_underlying hd1, goInt], .int _ _⟩
    · rename_i e sz bt z ek a n c hT'
      cases h
      obtain ⟨dd, hd1, hd2⟩ := (hT _ _ hT').und
      have := fits_slice rfl hd2; subst this
      cases hx <;> exact ⟨_, by simp [Builtin.len_, run_underlying hd1, goInt], .int _ _⟩
    · rename_i n e sz bt z ek hT'
      cases h
      obtain ⟨dd, hd1, hd2⟩ := (hT _ _ hT').und
      have := fits_arr hd2; subst this
      exact ⟨_, by simp [Builtin.len_, run_underlying hd1, goInt], .int _ _⟩
    · cases h
  · cases h
theorem cap_sim {tys : List TypeId} {ty : TypeId} {x X v : Value} (hT : TOK P tt) (h : aCap tt tys x = some v) (hx : VR ρ x X) :
    ∃ V, (Builtin.cap_ tys.toArray ty #[X]).run P W = .ok V W ∧ VR ρ v V := by
  unfold aCap at h
  split at h
  · rename_i t rest
    split at h
    · rename_i e sz bt z ek a n c hT'
      split at h
      · cases h
      · rename_i hc
        cases h
        obtain ⟨dd, hd1, hd2⟩ := (hT _ _ hT').und
        have := fits_slice rfl hd2; subst this
        cases hx with
        | slice _ _ _ _ p C hp g1 g2 g3 =>
          have := g2.resolve_left hc; subst this
          exact ⟨_, by simp [Builtin.cap_, run_underlying hd1, goInt], .int _ _⟩
        | sliceNone _ _ A hp => exact absurd rfl hc
        | sliceDead _ _ _ _ A C hp g1 g2 =>
          have := g2.resolve_left hc; subst this
          exact ⟨_, by simp [Builtin.cap_, run_underlying hd1, goInt], .int _ _⟩
    · rename_i e sz bt z ek hT'
      cases h
      obtain ⟨dd, hd1, hd2⟩ := (hT _ _ hT').und
      have := fits_slice rfl hd2; subst this
      cases hx
      exact ⟨_, by simp [Builtin.cap_, run_underlying hd1, goInt], .int _ _⟩
    · rename_i n e sz bt z ek hT'
      cases h
      obtain ⟨dd, hd1, hd2⟩ := (hT _ _ hT').und
      have := fits_arr hd2; subst this
      exact ⟨_, by simp [Builtin.cap_, run_underlying hd1, goInt], .int _ _⟩
    · cases h
  · cases h
theorem max_sim {ts : Array TypeId} {ty : TypeId} : ∀ (r R : List Value) (v : Value) (k : IntKind) (x : Int), VRl ρ r R → maxInts (.int k x) r = some v →
    ∃ V, (R.foldlM Builtin.max2 (.int k x)).run P W = .ok V W ∧ VR ρ v V := by
  intro r
  induction r with
  | nil =>
    intro R v k x h hm
    cases R with
    | nil => simp [maxInts] at hm; subst hm; exact ⟨_, by simp, .int _ _⟩
    | cons _ _ => simp [VRl] at h
  | cons y r ih =>
    intro R v k x h hm
    cases R with
    | nil => simp [VRl] at h
    | cons Y R =>
      have h0 := h.2 0 (by simp) (by simp)
      simp at h0
      have hr : VRl ρ r R := ⟨by have := h.1; simpa using this, fun i h1 h2 => by have := h.2 (i + 1) (by simp; omega) (by simp; omega); simpa using this⟩
      cases y <;> simp only [maxInts] at hm <;> first | cases hm | skip
      rename_i k' y
      have := h0.int_inv; subst this
      obtain ⟨V, g1, g2⟩ := ih R v k _ hr hm
      exact ⟨V, by simpa [Builtin.max2] using g1, g2⟩
theorem min_sim {ts : Array TypeId} {ty : TypeId} : ∀ (r R : List Value) (v : Value) (k : IntKind) (x : Int), VRl ρ r R → minInts (.int k x) r = some v →
    ∃ V, (R.foldlM Builtin.min2 (.int k x)).run P W = .ok V W ∧ VR ρ v V := by
  intro r
  induction r with
  | nil =>
    intro R v k x h hm
    cases R with
    | nil => simp [minInts] at hm; subst hm; exact ⟨_, by simp, .int _ _⟩
    | cons _ _ => simp [VRl] at h
  | cons y r ih =>
    intro R v k x h hm
    cases R with
    | nil => simp [VRl] at h
    | cons Y R =>
      have h0 := h.2 0 (by simp) (by simp)
      simp at h0
      have hr : VRl ρ r R := ⟨by have := h.1; simpa using this, fun i h1 h2 => by have := h.2 (i + 1) (by simp; omega) (by simp; omega); simpa using this⟩
      cases y <;> simp only [minInts] at hm <;> first | cases hm | skip
      rename_i k' y
      have := h0.int_inv; subst this
      obtain ⟨V, g1, g2⟩ := ih R v k _ hr hm
      exact ⟨V, by simpa [Builtin.min2] using g1, g2⟩
theorem bits_sim {op : BinOp} {k : IntKind} {x y : Int} {v : Value} (h : aBits op k x y = some v) : (Op.intBits op k x y).run P W = .ok v W := by
  unfold aBits at h
  cases op <;> simp only at h <;> cases h <;> rfl
theorem cmp_sim {op : BinOp} {x y : Int} {v : Value} (h : aCmp op x y = some v) : (Op.intCmp op x y).run P W = .ok v W := by
  unfold aCmp at h
  cases op <;> simp only at h <;> cases h <;> rfl
theorem aCmp_scalar {op : BinOp} {x y : Int} {v : Value} (h : aCmp op x y = some v) : VR ρ v v := by
  unfold aCmp at h
  cases op <;> simp only at h <;> cases h <;> constructor
theorem aBits_scalar {op : BinOp} {k : IntKind} {x y : Int} {v : Value} (h : aBits op k x y = some v) : VR ρ v v := by
  unfold aBits at h
  cases op <;> simp only at h <;> cases h <;> constructor
theorem int_sim {op : BinOp} {t : TypeId} {k k' : IntKind} {x y : Int} {v : Value} (h : aInt op k x y = some v) (hk : isShift op = true ∨ k = k') :
    (binOp op t (.int k x) (.int k' y)).run P W = .ok v W ∧ VR ρ v v := by
  unfold aInt at h
  cases op <;> simp only at h
  case add => cases h; have := hk.resolve_left (by simp [isShift]); subst this; exact ⟨by simp [binOp, Op.intArith], .int _ _⟩
  case sub => cases h; have := hk.resolve_left (by simp [isShift]); subst this; exact ⟨by simp [binOp, Op.intArith], .int _ _⟩
  case mul => cases h; have := hk.resolve_left (by simp [isShift]); subst this; exact ⟨by simp [binOp, Op.intArith], .int _ _⟩
  case quo =>
    split at h
    · cases h
    · rename_i h0
      cases h; have := hk.resolve_left (by simp [isShift]); subst this; exact ⟨by simp [binOp, Op.intDiv, h0], .int _ _⟩
  case rem =>
    split at h
    · cases h
    · rename_i h0
      cases h; have := hk.resolve_left (by simp [isShift]); subst this; exact ⟨by simp [binOp, Op.intDiv, h0], .int _ _⟩
  case shl =>
    split at h
    · cases h
    · rename_i h0
      cases h; exact ⟨by simp [binOp, Op.shift, h0], .int _ _⟩
  case shr =>
    split at h
    · cases h
    · rename_i h0
      cases h; exact ⟨by simp [binOp, Op.shift, h0], .int _ _⟩
  case and => have := hk.resolve_left (by simp [isShift]); subst this; exact ⟨by simp [binOp, bits_sim h], aBits_scalar h⟩
  case or => have := hk.resolve_left (by simp [isShift]); subst this; exact ⟨by simp [binOp, bits_sim h], aBits_scalar h⟩
  case xor => have := hk.resolve_left (by simp [isShift]); subst this; exact ⟨by simp [binOp, bits_sim h], aBits_scalar h⟩
  case andNot => have := hk.resolve_left (by simp [isShift]); subst this; exact ⟨by simp [binOp, bits_sim h], aBits_scalar h⟩
  all_goals
    have := hk.resolve_left (by simp [isShift]); subst this; exact ⟨by simp [binOp, cmp_sim h], aCmp_scalar h⟩
theorem str_sim {op : BinOp} {x y : ByteArray} {v : Value} (h : aStr op x y = some v) : (Op.stringOp op x y).run P W = .ok v W ∧ VR ρ v v := by
  unfold aStr at h
  cases op <;> simp only [reduceCtorEq] at h <;> first | (cases h; exact ⟨by simp [Op.stringOp], by constructor⟩) | skip
  split at h
  · rename_i hc
    cases h
    refine ⟨?_, .str _⟩
    have : ¬ ((x.size : Int) + (y.size : Int) > IntKind.i64.max) := by
      have : IntKind.i64.max = 9223372036854775807 := rfl
      omega
    simp [Op.stringOp]
    have e : IntKind.i64.max = 9223372036854775807 := rfl
    omega
  · cases h
theorem scalars_eq : ∀ (ks : List TD) {xs Xs : List Value}, xs.map kindOf = ks.map some → VRl ρ xs Xs → Xs = xs := by
  intro ks
  induction ks with
  | nil =>
    intro xs Xs h hv
    cases xs with
    | cons _ _ => simp at h
    | nil => cases Xs with
      | nil => rfl
      | cons _ _ => simp [VRl] at hv
  | cons k ks ih =>
    intro xs Xs h hv
    cases xs with
    | nil => simp at h
    | cons x xs =>
      cases Xs with
      | nil => simp [VRl] at hv
      | cons X Xs =>
        simp at h
        have h0 := hv.2 0 (by simp) (by simp)
        simp at h0
        have hr : VRl ρ xs Xs := ⟨by have := hv.1; simpa using this, fun i h1 h2 => by have := hv.2 (i + 1) (by simp; omega) (by simp; omega); simpa using this⟩
        rw [ih h.2 hr]
        congr 1
        cases x <;> simp [kindOf] at h <;> cases h0 <;> rfl
theorem eqGuard_plain {op : BinOp} {t : TypeId} {x y : Operand} {X Y : Value} (h : X ≠ .nilIface) (h' : ∀ c, X ≠ .agg c) : (eqGuard op t x y X Y).run P W = .ok () W := by
  unfold eqGuard
  cases X <;> simp_all <;> split <;> simp
theorem VR.slice_inv {a : Option Addr} {n c : Nat} {V : Value} (h : VR ρ (.slice a n c) V) : ∃ A C, V = .slice A n C ∧ A.isNone = a.isNone := by
  cases h <;> exact ⟨_, _, rfl, rfl⟩
theorem VR.ptr_inv {a : Option Addr} {V : Value} (h : VR ρ (.pointer a) V) : ∃ A, V = .pointer A ∧ A.isNone = a.isNone := by
  cases h <;> exact ⟨_, rfl, rfl⟩
theorem VR.func_inv {f : Fn} {x y : Array Value} {V : Value} (h : VR ρ (.func f x y) V) : ∃ X Y, V = .func f X Y := by
  cases h <;> exact ⟨_, _, rfl⟩
theorem VR.nilfunc_inv {V : Value} (h : VR ρ .nilFunc V) : V = .nilFunc := by cases h; rfl
theorem equal_step {t : TypeId} {x y : Value} : Op.equal t x y = Op.equalIn (9999 + 1) t x y := rfl
theorem eq_sim {op : BinOp} {t : TypeId} {x y : Operand} {a b A B : Value} {r : Bool} (hT : TOK P tt) (h : aEq tt t a b = some r) (ha : VR ρ a A) (hb : VR ρ b B) :
    (eqGuard op t x y A B).run P W = .ok () W ∧ (Op.equal t A B).run P W = .ok r W ∧ (∀ k n, A ≠ .int k n) ∧ (∀ s, A ≠ .string s) ∧ (∀ k n, A ≠ .float k n) ∧ (∀ k n m, A ≠ .complex k n m) := by
  unfold aEq at h
  split at h
  · rename_i s sz bt z p q hT'
    cases h
    obtain ⟨dd, hd1, hd2⟩ := (hT _ _ hT').und
    have := fits_bool hd2; subst this
    have := ha.bool_inv; subst this
    have := hb.bool_inv; subst this
    refine ⟨eqGuard_plain (by simp) (by simp), ?_, by simp, by simp, by simp, by simp⟩
    rw [equal_step, Op.equalIn]; simp [run_underlying hd1]
  · rename_i d sz bt z ks xs ys hT'
    split at h
    · rename_i hc
      cases h
      have hk := hT _ _ hT'
      obtain ⟨X', rfl, hX⟩ := ha.agg_inv
      obtain ⟨Y', rfl, hY⟩ := hb.agg_inv
      obtain ⟨e1, e2⟩ := hk.eq ks rfl
      have f1 : X'.toList = xs.toList := scalars_eq (ρ := ρ) ks hc.1 ⟨by simpa using hX.1, fun i h1 h2 => by simpa using hX.2 i (by simpa using h1) (by simpa using h2)⟩
      have f2 : Y'.toList = ys.toList := scalars_eq (ρ := ρ) ks hc.2 ⟨by simpa using hY.1, fun i h1 h2 => by simpa using hY.2 i (by simpa using h1) (by simpa using h2)⟩
      have g1 : X' = xs := Array.ext' f1
      have g2 : Y' = ys := Array.ext' f2
      subst g1; subst g2
      refine ⟨?_, e2 W _ _ hc.1 hc.2, by simp, by simp, by simp, by simp⟩
      unfold eqGuard
      split <;> simp [e1]
    · cases h
  · rename_i e sz bt z ek n c b n' c' hT'
    cases h
    obtain ⟨dd, hd1, hd2⟩ := (hT _ _ hT').und
    have := fits_slice rfl hd2; subst this
    obtain ⟨A', C, rfl, hA⟩ := ha.slice_inv
    obtain ⟨B', C', rfl, hB⟩ := hb.slice_inv
    simp at hA; subst hA
    refine ⟨eqGuard_plain (by simp) (by simp), ?_, by simp, by simp, by simp, by simp⟩
    rw [equal_step, Op.equalIn]; simp [run_underlying hd1, hB]
  · rename_i e sz bt z ek a' n c n' c' hne hT'
    cases h
    obtain ⟨dd, hd1, hd2⟩ := (hT _ _ hT').und
    have := fits_slice rfl hd2; subst this
    obtain ⟨A', C, rfl, hA⟩ := ha.slice_inv
    obtain ⟨B', C', rfl, hB⟩ := hb.slice_inv
    simp at hB; subst hB
    refine ⟨eqGuard_plain (by simp) (by simp), ?_, by simp, by simp, by simp, by simp⟩
    cases a' with
    | none => exact (hne rfl).elim
    | some a' =>
      cases A' with
      | none => simp at hA
      | some A' => rw [equal_step, Op.equalIn]; simp [run_underlying hd1]
  · rename_i e sz bt z ek b hT'
    cases h
    obtain ⟨dd, hd1, hd2⟩ := (hT _ _ hT').und
    have := fits_ptr hd2; subst this
    obtain ⟨A', rfl, hA⟩ := ha.ptr_inv
    obtain ⟨B', rfl, hB⟩ := hb.ptr_inv
    simp at hA; subst hA
    refine ⟨eqGuard_plain (by simp) (by simp), ?_, by simp, by simp, by simp, by simp⟩
    rw [equal_step, Op.equalIn]; simp [run_underlying hd1, hB]
  · rename_i e sz bt z ek a' hne hT'
    cases h
    obtain ⟨dd, hd1, hd2⟩ := (hT _ _ hT').und
    have := fits_ptr hd2; subst this
    obtain ⟨A', rfl, hA⟩ := ha.ptr_inv
    obtain ⟨B', rfl, hB⟩ := hb.ptr_inv
    simp at hB; subst hB
    refine ⟨eqGuard_plain (by simp) (by simp), ?_, by simp, by simp, by simp, by simp⟩
    cases a' with
    | none => exact (hne rfl).elim
    | some a' =>
      cases A' with
      | none => simp at hA
      | some A' => rw [equal_step, Op.equalIn]; simp [run_underlying hd1]
  · rename_i sz bt z ek hT'
    cases h
    obtain ⟨dd, hd1, hd2⟩ := (hT _ _ hT').und
    obtain ⟨_, _, _, this⟩ := fits_fn hd2; subst this
    have := ha.nilfunc_inv; subst this
    have := hb.nilfunc_inv; subst this
    refine ⟨eqGuard_plain (by simp) (by simp), ?_, by simp, by simp, by simp, by simp⟩
    rw [equal_step, Op.equalIn]; simp [run_underlying hd1]
  · rename_i sz bt z ek f x y hT'
    cases h
    obtain ⟨dd, hd1, hd2⟩ := (hT _ _ hT').und
    obtain ⟨_, _, _, this⟩ := fits_fn hd2; subst this
    have := ha.nilfunc_inv; subst this
    obtain ⟨_, _, rfl⟩ := hb.func_inv
    refine ⟨eqGuard_plain (by simp) (by simp), ?_, by simp, by simp, by simp, by simp⟩
    rw [equal_step, Op.equalIn]; simp [run_underlying hd1]
  · rename_i sz bt z ek f x y hT'
    cases h
    obtain ⟨dd, hd1, hd2⟩ := (hT _ _ hT').und
    obtain ⟨_, _, _, this⟩ := fits_fn hd2; subst this
    have := hb.nilfunc_inv; subst this
    obtain ⟨_, _, rfl⟩ := ha.func_inv
    refine ⟨eqGuard_plain (by simp) (by simp), ?_, by simp, by simp, by simp, by simp⟩
    rw [equal_step, Op.equalIn]; simp [run_underlying hd1]
  · cases h
theorem binOp_eql {t : TypeId} {X Y : Value} (h1 : ∀ k n, X ≠ .int k n) (h2 : ∀ s, X ≠ .string s) (h3 : ∀ k n, X ≠ .float k n) (h4 : ∀ k n m, X ≠ .complex k n m) :
    binOp .eql t X Y = (do pure (.bool (← Op.equal t X Y))) := by
  cases X <;> first | rfl | exact absurd rfl (h1 _ _) | exact absurd rfl (h2 _) | exact absurd rfl (h3 _ _) | exact absurd rfl (h4 _ _ _)
theorem binOp_neq {t : TypeId} {X Y : Value} (h1 : ∀ k n, X ≠ .int k n) (h2 : ∀ s, X ≠ .string s) (h3 : ∀ k n, X ≠ .float k n) (h4 : ∀ k n m, X ≠ .complex k n m) :
    binOp .neq t X Y = (do pure (.bool (!(← Op.equal t X Y)))) := by
  cases X <;> first | rfl | exact absurd rfl (h1 _ _) | exact absurd rfl (h2 _) | exact absurd rfl (h3 _ _) | exact absurd rfl (h4 _ _ _)
theorem bin_sim {op : BinOp} {t : TypeId} {xo yo : Operand} {x y X Y v : Value} (hT : TOK P tt) (h : aBin tt op t x y = some v) (hx : VR ρ x X) (hy : VR ρ y Y) :
    ∃ V, (do eqGuard op t xo yo X Y; binOp op t X Y : Sem Value).run P W = .ok V W ∧ VR ρ v V := by
  unfold aBin at h
  split at h
  · rename_i k a k' b
    have := hx.int_inv; subst this
    have := hy.int_inv; subst this
    split at h
    · rename_i hk
      obtain ⟨h1, h2⟩ := int_sim (P := P) (W := W) (ρ := ρ) (t := t) h hk
      refine ⟨v, ?_, h2⟩
      simp only [Sem.run_bind, eqGuard_plain (X := .int k a) (by simp) (by simp), Result.andThen_ok, h1]
    · cases h
  · rename_i a b
    have := hx.str_inv; subst this
    have := hy.str_inv; subst this
    obtain ⟨h1, h2⟩ := str_sim (P := P) (W := W) (ρ := ρ) h
    refine ⟨v, ?_, h2⟩
    simp only [Sem.run_bind, eqGuard_plain (X := .string a) (by simp) (by simp), Result.andThen_ok]
    have e : binOp op t (.string a) (.string b) = Op.stringOp op a b := by cases op <;> rfl
    rw [e]; exact h1
  · split at h
    · rw [Option.map_eq_some_iff] at h
      obtain ⟨r, hr, rfl⟩ := h
      obtain ⟨h1, h2, n1, n2, n3, n4⟩ := eq_sim (P := P) (W := W) (op := .eql) (x := xo) (y := yo) hT hr hx hy
      refine ⟨_, ?_, .bool r⟩
      simp only [Sem.run_bind, h1, Result.andThen_ok, binOp_eql n1 n2 n3 n4, h2, Sem.run_pure]
    · rw [Option.map_eq_some_iff] at h
      obtain ⟨r, hr, rfl⟩ := h
      obtain ⟨h1, h2, n1, n2, n3, n4⟩ := eq_sim (P := P) (W := W) (op := .neq) (x := xo) (y := yo) hT hr hx hy
      refine ⟨_, ?_, .bool (!r)⟩
      simp only [Sem.run_bind, h1, Result.andThen_ok, binOp_neq n1 n2 n3 n4, h2, Sem.run_pure]
    · cases h
theorem un_sim {op : UnOp} {x X v : Value} (h : aUn op x = some v) (hx : VR ρ x X) : ∃ V, (Op.unary op X).run P W = .ok V W ∧ VR ρ v V := by
  unfold aUn at h
  split at h
  · cases h; have := hx.int_inv; subst this; exact ⟨_, by simp [Op.unary, Op.intArith], .int _ _⟩
  · have := hx.int_inv; subst this; exact ⟨v, by simpa [Op.unary] using bits_sim h, aBits_scalar h⟩
  · cases h; have := hx.bool_inv; subst this; exact ⟨_, by simp [Op.unary], .bool _⟩
  · cases h
theorem bytes_loop (g : Value → ByteArray → Sem (ForInStep ByteArray)) (hg : ∀ n r, g (.int .u8 n) r = pure (ForInStep.yield (r.push (UInt8.ofNat n.toNat)))) : ∀ (cs : List Value) (l : List UInt8) (s : ByteArray), bytesOf cs = some l →
    (forIn cs s g).run P W = .ok ⟨(s.data.toList ++ l).toArray⟩ W := by
  intro cs
  induction cs with
  | nil => intro l s h; simp [bytesOf] at h; subst h; simp
  | cons c cs ih =>
    intro l s h
    cases c <;> try (simp only [bytesOf, reduceCtorEq] at h; done)
    rename_i k n
    cases k <;> try (simp only [bytesOf, reduceCtorEq] at h; done)
    simp only [bytesOf] at h
    rw [Option.map_eq_some_iff] at h
    obtain ⟨l', hl, rfl⟩ := h
    simp only [List.forIn_cons, Sem.run_bind, hg, Sem.run_pure, Result.andThen_ok]
    rw [ih l' _ hl]
    simp
theorem bytes_vr : ∀ (cs Cs : List Value) (l : List UInt8), VRl ρ cs Cs → bytesOf cs = some l → bytesOf Cs = some l := by
  intro cs
  induction cs with
  | nil => intro Cs l h hb; cases Cs with
    | nil => exact hb
    | cons _ _ => simp [VRl] at h
  | cons c cs ih =>
    intro Cs l h hb
    cases Cs with
    | nil => simp [VRl] at h
    | cons C Cs =>
      have h0 := h.2 0 (by simp) (by simp)
      simp at h0
      have hr : VRl ρ cs Cs := ⟨by have := h.1; simpa using this, fun i h1 h2 => by have := h.2 (i + 1) (by simp; omega) (by simp; omega); simpa using this⟩
      cases c <;> try (simp only [bytesOf, reduceCtorEq] at hb; done)
      rename_i k n
      have := h0.int_inv; subst this
      cases k <;> try (simp only [bytesOf, reduceCtorEq] at hb; done)
      simp only [bytesOf] at hb
      rw [Option.map_eq_some_iff] at hb
      obtain ⟨l', hl, rfl⟩ := hb
      simp [bytesOf, ih Cs l' hr hl]
theorem conv_sim {s d : TypeId} {x X v : Value} (hT : TOK P tt) (hM : Mem ρ H W) (h : aConv tt H s d x = some v) (hx : VR ρ x X) :
    ∃ V, (convert s d X).run P W = .ok V W ∧ VR ρ v V := by
  unfold aConv at h
  split at h
  · rename_i S k sz bt z ek k' n hS hD
    cases h
    obtain ⟨d1, hd1, hd2⟩ := (hT _ _ hS).und
    obtain ⟨d2, he1, he2⟩ := (hT _ _ hD).und
    have := fits_int he2; subst this
    have := hx.int_inv; subst this
    refine ⟨_, ?_, .int _ _⟩
    simp only [convert, Sem.run_bind, run_underlying hd1, run_underlying he1, Result.andThen_ok]
    cases d1 <;> simp [Conv.intToInt]
  · rename_i a1 a2 a3 a4 b1 b2 b3 b4 n hS hD
    cases h
    obtain ⟨d1, hd1, hd2⟩ := (hT _ _ hS).und
    obtain ⟨d2, he1, he2⟩ := (hT _ _ hD).und
    have := fits_str hd2; subst this
    have := fits_str he2; subst this
    have := hx.str_inv; subst this
    exact ⟨_, by simp [convert, run_underlying hd1, run_underlying he1], .str _⟩
  · rename_i e a1 a2 a3 a4 b1 b2 b3 b4 hS hD
    split at h
    · rename_i c1 c2 c3 c4 hE
      cases h
      obtain ⟨d1, hd1, hd2⟩ := (hT _ _ hS).und
      obtain ⟨d2, he1, he2⟩ := (hT _ _ hD).und
      obtain ⟨d3, hf1, hf2⟩ := (hT _ _ hE).und
      have := fits_slice rfl hd2; subst this
      have := fits_str he2; subst this
      have := fits_int hf2; subst this
      have hX : X = .slice none 0 0 := by cases hx; rfl
      subst hX
      exact ⟨_, by simp [convert, run_underlying hd1, run_underlying he1, run_underlying hf1, Conv.bytesToString], .str _⟩
    · cases h
  · rename_i e a1 a2 a3 a4 b1 b2 b3 b4 b i n c hS hD
    split at h
    · rename_i c1 c2 c3 c4 l hE hl
      cases h
      obtain ⟨d1, hd1, hd2⟩ := (hT _ _ hS).und
      obtain ⟨d2, he1, he2⟩ := (hT _ _ hD).und
      obtain ⟨d3, hf1, hf2⟩ := (hT _ _ hE).und
      have := fits_slice rfl hd2; subst this
      have := fits_str he2; subst this
      have := fits_int hf2; subst this
      obtain ⟨cs, hr, hb⟩ := Option.bind_eq_some_iff.1 hl
      have key : ∃ A C, X = .slice (some A) n C ∧ ∃ Vs : Array Value, (loadCells A n).run P W = .ok Vs W ∧ bytesOf Vs.toList = some l := by
        have hb' : ρ b ≠ none := by cases hx <;> simp_all
        obtain ⟨p, B, k1, k2, k3, k4, k5, Vs, k6, k7⟩ := rd_sim (P := P) hM hr hb'
        have hV : bytesOf Vs.toList = some l := bytes_vr (ρ := ρ) cs Vs.toList l ⟨by simpa using k7.1, fun j g1 g2 => by have := k7.2 j (by simpa using g1) (by simpa using g2); rw [List.getElem_toArray] at this; simpa using this⟩ hb
        cases hx with
        | slice _ _ _ _ q C hq _ _ _ => rw [k1] at hq; cases hq; exact ⟨_, _, rfl, Vs, k6 W rfl, hV⟩
        | sliceNone _ _ A hp =>
          have : Vs = #[] := by
            apply Array.eq_empty_of_size_eq_zero
            have := k7.1; simp at this; rw [← this, k4]
          subst this
          exact ⟨A, 0, rfl, #[], by simp [loadCells, loadCellsFrom], hV⟩
        | sliceDead _ _ _ _ A C hq _ _ => rw [k1] at hq; cases hq
      obtain ⟨A, C, rfl, Vs, hrun, hV⟩ := key
      refine ⟨_, ?_, .str _⟩
      simp only [convert, Sem.run_bind, run_underlying hd1, run_underlying he1, run_underlying hf1, Result.andThen_ok, Conv.bytesToString, hrun, ← Array.forIn_toList]
      rw [bytes_loop _ (fun n r => rfl) Vs.toList l ByteArray.empty hV]
      rfl
    · cases h
  · cases h
end
end Go.Fw
namespace Go.Fw
open Go
section
variable {P : Program} {tt : TT} {ρ : Inj} {H : Heap} {W : World}
def Fits (P : Program) (s : Sem Next) (ρ : Inj) (H : Heap) (W : World) (v : Value) (H1 : Heap) : Prop :=
  ∃ nx V ρ1 W1, s.run P W = .ok nx W1 ∧ (nx = .value V ∨ nx = .skip ∧ V = undef) ∧ VR ρ1 v V ∧ Step ρ H W ρ1 H1 W1
theorem Fits.pu (hM : Mem ρ H W) {s : Sem Value} {v : Value} (h : ∃ V, s.run P W = .ok V W ∧ VR ρ v V) : Fits P (do pure (.value (← s))) ρ H W v H := by
  obtain ⟨V, h1, h2⟩ := h
  exact ⟨_, V, ρ, W, by simp [h1], .inl rfl, h2, .refl hM⟩
theorem Fits.val {s : Sem Value} {v : Value} {H1 : Heap} (h : ∃ V ρ1 W1, s.run P W = .ok V W1 ∧ VR ρ1 v V ∧ Step ρ H W ρ1 H1 W1) : Fits P (do pure (.value (← s))) ρ H W v H1 := by
  obtain ⟨V, ρ1, W1, h1, h2, h3⟩ := h
  exact ⟨_, V, ρ1, W1, by simp [h1], .inl rfl, h2, h3⟩
theorem map_some {α β : Type} {x : Option α} {f : α → β} {y : β} (h : x.map f = some y) : ∃ a, x = some a ∧ f a = y := Option.map_eq_some_iff.1 h
theorem VRp.mk {e E : Operand → Value} {ps : Array (Nat × Operand)} (h : ∀ x ∈ (ps.toList.map (·.2)), VR ρ (e x) (E x)) :
    VRp ρ (parts' e ps) (ps.map fun (x : Nat × Operand) => (x.1, E x.2)).toList := by
  refine ⟨by simp [parts'], fun i h1 h2 => ?_⟩
  simp [parts'] at h1 h2 ⊢
  exact h _ (List.mem_map.2 ⟨ps[i], by simp, rfl⟩)
theorem VRs.mapArr {e E : Operand → Value} {xs : Array Operand} (h : ∀ x ∈ xs, VR ρ (e x) (E x)) : VRs ρ (xs.map e) (xs.map E) :=
  ⟨by simp, fun i h1 h2 => by simp at h1 ⊢; exact h _ (by simp)⟩
theorem builtin_sim {b : Builtin} {tys : Array TypeId} {ty : TypeId} {cs : Array Bool} {xs : List Value} {Xs : Array Value} {v : Value} {H1 : Heap} (hT : TOK P tt) (hM : Mem ρ H W)
    (h : aBuiltin tt H b tys.toList xs = some (v, H1)) (hx : VRs ρ xs.toArray Xs) : Fits P (builtin b tys ty cs Xs) ρ H W v H1 := by
  have two : ∀ {s x : Value}, xs = [s, x] → ∃ S X, Xs = #[S, X] ∧ VR ρ s S ∧ VR ρ x X := by
    rintro s x rfl
    obtain ⟨h1, h2⟩ := hx
    obtain ⟨l⟩ := Xs
    match l, h1 with
    | [S, X], _ => exact ⟨S, X, rfl, by simpa using h2 0 (by simp) (by simp), by simpa using h2 1 (by simp) (by simp)⟩
  have one : ∀ {x : Value}, xs = [x] → ∃ X, Xs = #[X] ∧ VR ρ x X := by
    rintro x rfl
    obtain ⟨h1, h2⟩ := hx
    obtain ⟨l⟩ := Xs
    match l, h1 with
    | [X], _ => exact ⟨X, rfl, by simpa using h2 0 (by simp) (by simp)⟩
  have cons : ∀ {k : IntKind} {n : Int} {r : List Value}, xs = .int k n :: r → ∃ R, Xs.toList = .int k n :: R ∧ VRl ρ r R := by
    rintro k n r rfl
    obtain ⟨h1, h2⟩ := hx
    obtain ⟨l⟩ := Xs
    cases l with
    | nil => simp at h1
    | cons X R =>
      have h0 : VR ρ (.int k n) X := by simpa using h2 0 (by simp) (by simp)
      have := h0.int_inv; subst this
      refine ⟨R, rfl, by simpa using h1, fun i g1 g2 => ?_⟩
      have := h2 (i + 1) (by simp; omega) (by simp; omega)
      simpa using this
  unfold aBuiltin at h
  split at h
  · rename_i s x
    obtain ⟨S, X, rfl, hs, hx'⟩ := two rfl
    have := append_sim (ty := ty) hT hM h hs hx'
    simp only [Array.toArray_toList] at this
    exact Fits.val this
  · rename_i d x
    obtain ⟨S, X, rfl, hs, hx'⟩ := two rfl
    have := copy_sim (ty := ty) hT hM h hs hx'
    simp only [Array.toArray_toList] at this
    exact Fits.val this
  · rename_i x
    obtain ⟨X, rfl, hx'⟩ := one rfl
    have := clear_sim (ty := ty) hT hM h hx'
    simp only [Array.toArray_toList] at this
    exact Fits.val this
  · rename_i x
    obtain ⟨X, rfl, hx'⟩ := one rfl
    obtain ⟨a, ha, he⟩ := map_some h
    cases he
    have := len_sim' (W := W) (ty := ty) hT ha hx'
    simp only [Array.toArray_toList] at this
    exact Fits.pu hM this
  · rename_i x
    obtain ⟨X, rfl, hx'⟩ := one rfl
    obtain ⟨a, ha, he⟩ := map_some h
    cases he
    have := cap_sim (W := W) (ty := ty) hT ha hx'
    simp only [Array.toArray_toList] at this
    exact Fits.pu hM this
  · rename_i k x r
    obtain ⟨R, hR, hr⟩ := cons rfl
    obtain ⟨a, ha, he⟩ := map_some h
    cases he
    have := max_sim (P := P) (W := W) (ts := tys) (ty := ty) r R _ k x hr ha
    refine Fits.pu hM ?_
    simpa [Builtin.max_, hR] using this
  · rename_i k x r
    obtain ⟨R, hR, hr⟩ := cons rfl
    obtain ⟨a, ha, he⟩ := map_some h
    cases he
    have := min_sim (P := P) (W := W) (ts := tys) (ty := ty) r R _ k x hr ha
    refine Fits.pu hM ?_
    simpa [Builtin.min_, hR] using this
  · cases h
theorem VRo.mk {e E : Operand → Value} {x : Option Operand} (h : ∀ y ∈ x.toArray, VR ρ (e y) (E y)) : VRo ρ (x.map e) (x.map E) := by
  cases x with
  | none => trivial
  | some y => exact h y (by simp)
theorem aop_sim {o : Oper} {e E : Operand → Value} {v : Value} {H1 : Heap} (hT : TOK P tt) (hM : Mem ρ H W) (h : aop tt o.op e H = some (v, H1)) (hE : ∀ x ∈ o.op.operands, VR ρ (e x) (E x)) :
    Fits P (execOp E o) ρ H W v H1 := by
  obtain ⟨dst, op, type, pos, after, guard⟩ := o
  unfold aop at h
  simp only at h hE
  split at h
  · rename_i x; cases h; exact ⟨_, _, ρ, W, rfl, .inl rfl, hE x (by simp [Op.operands]), .refl hM⟩
  · rename_i x; cases h; exact ⟨_, _, ρ, W, rfl, .inl rfl, hE x (by simp [Op.operands]), .refl hM⟩
  · rename_i c a b
    split at h
    · rename_i t hc
      cases h
      have h0 := hE c (by simp [Op.operands])
      rw [hc] at h0
      have hc' := h0.bool_inv
      refine ⟨.value (if t then E a else E b), if t then E a else E b, ρ, W, ?_, .inl rfl, ?_, .refl hM⟩
      · simp [execOp, hc', asBool]
      · cases t
        · exact hE b (by simp [Op.operands])
        · exact hE a (by simp [Op.operands])
    · cases h
  · rename_i t
    split at h
    · rename_i T hT'
      cases h
      exact Fits.val (alloc_sim hT hM hT')
    · cases h
  · rename_i t x
    cases h
    exact Fits.val (box_sim hM (hE x (by simp [Op.operands])))
  · rename_i t ps
    obtain ⟨a, ha, he⟩ := map_some h
    cases he
    have := build_sim (W := W) hT ha (VRp.mk (E := E) (ps := ps) (fun x hx => hE x (by simpa [Op.operands] using hx)))
    simp only [Array.toArray_toList] at this
    exact Fits.pu hM this
  · rename_i t n ps
    have := buildSlice_sim hT hM h (VRp.mk (E := E) (ps := ps) (fun x hx => hE x (by simpa [Op.operands] using hx)))
    simp only [Array.toArray_toList] at this
    exact Fits.val this
  · rename_i t a
    obtain ⟨x, ha, he⟩ := map_some h
    cases he
    exact Fits.pu hM (load_sim hT hM ha (hE a (by simp [Op.operands])))
  · rename_i t a x
    obtain ⟨H', ha, he⟩ := map_some h
    cases he
    obtain ⟨W', h1, h2⟩ := store_sim (P := P) hT hM ha (hE a (by simp [Op.operands])) (hE x (by simp [Op.operands]))
    exact ⟨.skip, undef, ρ, W', by simp [execOp, h1], .inr ⟨rfl, rfl⟩, VR.undef ρ, h2⟩
  · rename_i x
    have h0 := hE x (by simp [Op.operands])
    split at h
    · rename_i a hx
      cases h
      rw [hx] at h0
      obtain ⟨A, hA, hn⟩ := h0.ptr_inv
      cases A with
      | none => simp at hn
      | some A =>
        rw [hA] at h0
        exact ⟨_, _, ρ, W, by simp [execOp, hA], .inl rfl, h0, .refl hM⟩
    · rename_i f x' y' hx
      cases h
      rw [hx] at h0
      obtain ⟨X, Y, hA⟩ := h0.func_inv
      rw [hA] at h0
      exact ⟨_, _, ρ, W, by simp [execOp, hA], .inl rfl, h0, .refl hM⟩
    · cases h
  · rename_i op t x y ty
    obtain ⟨a, ha, he⟩ := map_some h
    cases he
    exact Fits.pu hM (bin_sim hT ha (hE x (by simp [Op.operands])) (hE y (by simp [Op.operands])))
  · rename_i op t x
    obtain ⟨a, ha, he⟩ := map_some h
    cases he
    exact Fits.pu hM (un_sim ha (hE x (by simp [Op.operands])))
  · rename_i s d x
    obtain ⟨a, ha, he⟩ := map_some h
    cases he
    exact Fits.pu hM (conv_sim hT hM ha (hE x (by simp [Op.operands])))
  · rename_i f first cap
    cases h
    have h1 := VRs.mapArr (e := e) (E := E) (xs := first) (fun x hx => hE x (by simp [Op.operands, hx]))
    have h2 := VRs.mapArr (e := e) (E := E) (xs := cap) (fun x hx => hE x (by simp [Op.operands, hx]))
    exact ⟨_, _, ρ, W, by simp [execOp, Instr.makeFunc], .inl rfl, .func f _ _ _ _ h1.1 h2.1 h1.2 h2.2, .refl hM⟩
  · rename_i t l c
    exact Fits.val (makeSlice_sim hT hM h (hE l (by simp [Op.operands])) (hE c (by simp [Op.operands])))
  · rename_i t x lo hi mx
    obtain ⟨a, ha, he⟩ := map_some h
    cases he
    refine Fits.pu hM (slice_sim hT hM ha (hE x (by simp [Op.operands])) (VRo.mk fun y hy => hE y ?_) (VRo.mk fun y hy => hE y ?_) (VRo.mk fun y hy => hE y ?_))
    all_goals simp [Op.operands] at hy ⊢; simp [hy]
  · rename_i t x f
    obtain ⟨a, ha, he⟩ := map_some h
    cases he
    exact Fits.pu hM (fieldAddr_sim hT ha (hE x (by simp [Op.operands])))
  · rename_i t x f
    obtain ⟨a, ha, he⟩ := map_some h
    cases he
    exact Fits.pu hM (field_sim hT ha (hE x (by simp [Op.operands])))
  · rename_i t x i
    obtain ⟨a, ha, he⟩ := map_some h
    cases he
    exact Fits.pu hM (indexAddr_sim hT ha (hE x (by simp [Op.operands])) (hE i (by simp [Op.operands])))
  · rename_i t x i
    obtain ⟨a, ha, he⟩ := map_some h
    cases he
    exact Fits.pu hM (index_sim hT ha (hE x (by simp [Op.operands])) (hE i (by simp [Op.operands])))
  · rename_i x i
    have h0 := hE x (by simp [Op.operands])
    split at h
    · rename_i vs hx
      obtain ⟨a, ha, he⟩ := map_some h
      cases he
      rw [hx] at h0
      obtain ⟨X, hX, hv⟩ := h0.tuple_inv
      obtain ⟨V, k1, k2⟩ := hv.get ha
      exact Fits.pu hM ⟨V, by simp [Instr.extract, hX, k1], k2⟩
    · cases h
  · rename_i b args tys
    have hargs : VRs ρ (args.toList.map e).toArray (args.map E) := by
      refine ⟨by simp, fun i h1 h2 => ?_⟩
      simp at h1 ⊢
      exact hE _ (by simp [Op.operands, Call.operands])
    show Fits P (builtin b tys type _ (args.map E)) ρ H W v H1
    exact builtin_sim hT hM h hargs
  · cases h
end
end Go.Fw
namespace Go.Fw
open Go
abbrev Slots := Nat → Value
def Slots.put (s : Slots) (d : Option Tmp) (v : Value) : Slots := match d with | some d => fun t => if t = d then v else s t | none => s
def ev (s : Slots) : Operand → Value
  | .tmp t => s t
  | .const v => v
  | .func f => .func (.func f) #[] #[]
  | .global g => .pointer (some ⟨0, 0, some g⟩)
inductive AEx where
  | normal | exit (id : Nat) | ret
abbrev APost := AEx → Slots → Heap → Prop
abbrev ACall := Fn → Array Value → Heap → Value → Heap → Prop
def yieldA (ops : Array Oper) (s : Slots) (j : Nat) : Option Bool :=
  match (ops[j]?).bind (·.dst) with
  | some d => (match s d with | .bool b => some b | _ => none)
  | none => none
def wantedA (ops : Array Oper) (s : Slots) (o : Oper) : Bool := Region.wanted o (yieldA ops s)
def lq (q : Nat) (d : Option Tmp) : Bool := match q with | 0 => false | 1 => true | t + 2 => !(d == some t)
def AStep (tt : TT) (S : ACall) (q : Nat) (o : Oper) (s : Slots) (H : Heap) (s' : Slots) (H' : Heap) : Prop :=
  match o.op with
  | .call { callee := .value f, args, .. } =>
    (∃ g first cap v, ev s f = .func (.func g) first cap ∧ S (.func g) (first ++ args.map (ev s) ++ cap) H v H' ∧ (lq q o.dst = true → ∃ G, H' = H ++ G) ∧ s' = s.put o.dst v) ∨
    (lq q o.dst = false ∧ ∃ l v, ev s f = .func (.yield l) #[] #[] ∧ S (.yield l) (args.map (ev s)) H v H' ∧ s' = s.put o.dst v)
  | _ => ∃ v, aop tt o.op (ev s) H = some (v, H') ∧ s' = s.put o.dst v
def AOp (tt : TT) (S : ACall) (q : Nat) (ops : Array Oper) (o : Oper) (s : Slots) (H : Heap) (s' : Slots) (H' : Heap) : Prop :=
  if wantedA ops s o = true then AStep tt S q o s H s' H' else s' = s.put o.dst undef ∧ H' = H
def AxI (tt : TT) (S : ACall) (q : Nat) (ops : Array Oper) (K : Slots → Heap → Prop) : List Nat → Slots → Heap → Prop
  | [], s, H => K s H
  | i :: l, s, H =>
    match ops[i]? with
    | none => AxI tt S q ops K l s H
    | some o => ∃ s' H', AOp tt S q ops o s H s' H' ∧ AxI tt S q ops K l s' H'
def AxAny (tt : TT) (S : ACall) (ops : Array Oper) (K : Slots → Heap → Prop) : Nat → Array Bool → Slots → Heap → Prop
  | 0, listed, s, H => Region.ready .any ops listed = [] ∧ K s H
  | n + 1, listed, s, H => (Region.ready .any ops listed = [] → K s H) ∧
    ∀ i ∈ Region.ready .any ops listed, match ops[i]? with
      | none => AxAny tt S ops K n (listed.setIfInBounds i true) s H
      | some o => ∃ s' H', AOp tt S 0 ops o s H s' H' ∧ AxAny tt S ops K n (listed.setIfInBounds i true) s' H'
inductive Cls where
  | pure | quiet | mut | call
  deriving DecidableEq
def clsOf : Op → Cls
  | .move _ | .assign _ | .pick .. | .build .. | .nilCheck _ | .binOp .. | .unOp .. | .makeFunc .. | .fieldAddr .. | .field .. | .indexAddr .. | .index .. | .extract .. => .pure
  | .alloc _ | .box .. | .buildSlice .. | .makeSlice .. | .load .. | .convert .. | .slice .. => .quiet
  | .call { callee := .builtin b, .. } => (match b with | .len | .cap | .max | .min => .pure | _ => .mut)
  | .call { callee := .value _, .. } => .call
  | _ => .mut
def isMut (q : Nat) (o : Oper) : Bool := match clsOf o.op with | .mut => true | .call => !lq q o.dst | _ => false
def isMem (o : Oper) : Bool := match clsOf o.op with | .pure => false | _ => true
def preds (o : Oper) : List Nat := (o.after.toList.filter (Region.binds .any)).map (·.on)
def maskOf (acc : List Nat) (o : Oper) : Nat := (preds o).foldl (fun s j => s ||| 2 ^ j ||| acc.getD j 0) 0
def masks (ops : List Oper) : List Nat := ops.foldl (fun acc o => acc ++ [maskOf acc o]) []
def cmpb (ms : List Nat) (i j : Nat) : Bool := (ms.getD i 0).testBit j || (ms.getD j 0).testBit i
def readsT (ops : Array Oper) (o : Oper) : List Tmp :=
  (o.op.operands.toList.filterMap fun | .tmp t => some t | _ => none) ++ (match o.guard with | some (g, _) => ((ops[g]?).bind (·.dst)).toList | none => [])
def looseB (ops : Array Oper) (i j : Nat) (o p : Oper) : Bool :=
  match p.op, o.op with
  | .load .., .store _ (.tmp x) _ => ops.toList.zipIdx.any fun (r, a) => decide (j < a) && decide (a < i) && r.guard.isNone && decide (r.dst = some x) && (match r.op with | .alloc _ => true | _ => false)
  | _, _ => false
def regOk (q : Nat) (ops : Array Oper) : Bool :=
  let ms := masks ops.toList
  let l := ops.toList.zipIdx
  (l.all fun (o, i) => (preds o).all fun j => j < i) &&
  (l.all fun (o, i) => l.all fun (p, j) => i == j || (
    (!(o.dst.isSome && o.dst == p.dst)) &&
    (match o.dst with | some d => !(readsT ops p).contains d || cmpb ms i j | none => true) &&
    (!(isMut q o && isMem p) || cmpb ms i j || looseB ops i j o p)))
def AxReg (tt : TT) (S : ACall) (ops : Array Oper) (draw : Bool) (K : Slots → Heap → Prop) (s : Slots) (H : Heap) : Prop :=
  if draw = true then
    (∃ q, regOk q ops = true ∧ AxI tt S q ops K (List.range ops.size) s H) ∨
    (∃ s' H', AxAny tt S ops (fun s1 H1 => s1 = s' ∧ H1 = H') ops.size (Array.replicate ops.size false) s H ∧ K s' H')
  else AxI tt S 0 ops K (List.range ops.size) s H
def AEx.thn (K : Slots → Heap → Prop) (Q : APost) : APost | .normal, s, H => K s H | e, s, H => Q e s H
def AEx.inBlock (id : Nat) (Q : APost) : APost
  | .exit id', s, H => if id' = id then Q .normal s H else Q (.exit id') s H
  | e, s, H => Q e s H
def AxLoop (B : APost → Slots → Heap → Prop) (Q : APost) : Nat → Slots → Heap → Prop
  | 0, _, _ => False
  | n + 1, s, H => B (AEx.thn (AxLoop B Q n) Q) s H
def Ax (tt : TT) (S : ACall) : Code → APost → Slots → Heap → Prop
  | .skip, Q, s, H => Q .normal s H
  | .region _ ops draw, Q, s, H => AxReg tt S ops draw (Q .normal) s H
  | .seq a b, Q, s, H => Ax tt S a (AEx.thn (Ax tt S b Q) Q) s H
  | .cond c t e, Q, s, H => ∃ b, ev s c = .bool b ∧ if b = true then Ax tt S t Q s H else Ax tt S e Q s H
  | .block id b, Q, s, H => Ax tt S b (AEx.inBlock id Q) s H
  | .loop b, Q, s, H => ∃ n, AxLoop (Ax tt S b) Q n s H
  | .exit id, Q, s, H => Q (.exit id) s H
  | .ret, Q, s, H => Q .ret s H
  | _, _, _, _ => False
def constOk : Operand → Bool | .const v => plain v | _ => true
def operOk (n : Nat) (o : Oper) : Bool := (match o.dst with | some d => d < n | none => true) && o.op.operands.toList.all constOk
def codeOk (n : Nat) : Code → Bool
  | .skip | .exit _ | .ret => true
  | .region _ ops _ => ops.toList.all (operOk n)
  | .seq a b => codeOk n a && codeOk n b
  | .cond c t e => constOk c && codeOk n t && codeOk n e
  | .block _ b | .loop b => codeOk n b
  | _ => false
end Go.Fw
namespace Go.Fw
open Go
def FW (r : Option Nat) : Fence := { Fence.wide with round := r }
def Sim (P : Program) : FuncId → Array Value → Heap → Value → Heap → Prop := fun f args H v H' =>
  (∃ fn, P.funcs[f]? = some fn ∧ (fn.name == "runtime.NumGoroutine") = false ∧ fn.body.isNone = false) ∧
  ∀ (ρ : Inj) (W : World) (ARGS : Array Value), Mem ρ H W → VRs ρ args ARGS →
    Calls P f ARGS W fun e W' => ∃ V ρ', e = .returned V ∧ VR ρ' v V ∧ Step ρ H W ρ' H' W'
def SimX (P : Program) : FuncId → Array Value → Heap → Value → Heap → Prop := fun f args H v H' =>
  ∀ (ρ : Inj) (W : World) (ARGS : Array Value), Mem ρ H W → VRs ρ args ARGS →
    ∃ V ρ' W', (callFunc f ARGS).run P W = .ok (.value V) W' ∧ VR ρ' v V ∧ Step ρ H W ρ' H' W'
def SimFX (P : Program) : ACall := fun fn => match fn with | .func g => fun as H v H' => Sim P g as H v H' ∨ SimX P g as H v H' | _ => fun _ _ _ _ => False
def SimF (P : Program) : ACall := fun fn => match fn with | .func g => Sim P g | _ => fun _ _ _ _ => False
structure Snd (P : Program) (r : Option Nat) (S : ACall) (X : Inj → Heap → World → Prop) : Prop where
  st : ∀ {ρ H W ρ' H' W'}, X ρ H W → Step ρ H W ρ' H' W' → X ρ' H' W'
  fn : ∀ {g as H v H'}, S (.func g) as H v H' → Sim P g as H v H' ∨ SimX P g as H v H'
  yl : ∀ {l as H v H'}, S (.yield l) as H v H' → ∀ m ρ W ARGS, Mem ρ H W → X ρ H W → VRs ρ as ARGS → YieldAt (FW r) m P l ARGS W fun e W' => ∃ V ρ', e = .returned V ∧ VR ρ' v V ∧ Step ρ H W ρ' H' W'
theorem snd_sim (P : Program) (r : Option Nat) : Snd P r (SimF P) (fun _ _ _ => True) := ⟨fun _ _ => trivial, fun h => .inl h, fun h => h.elim⟩
structure Bas where
  ρ : Inj
  H : Heap
  W : World
def Bas.To (β : Bas) (ρ : Inj) (H : Heap) (W : World) : Prop := Step β.ρ β.H β.W ρ H W
def Nxt (ρ : Inj) (H : Heap) (ρ' : Inj) (H' : Heap) : Prop := ρ.Le ρ' ∧ H.length ≤ H'.length ∧ ∀ b, b < H.length → ρ b = none → ρ' b = none
theorem Step.nxt {ρ ρ' : Inj} {H H' : Heap} {W W' : World} (s : Step ρ H W ρ' H' W') : Nxt ρ H ρ' H' := ⟨s.le, s.len, fun b h1 h2 => s.fresh b h1 h2⟩
structure SndB (P : Program) (r : Option Nat) (S : ACall) (X : Inj → Heap → World → Prop) (A : Heap → Heap → Prop) (β : Bas) : Prop where
  st : ∀ {ρ H W ρ' H' W'}, X ρ H W → A H H' → Step ρ H W ρ' H' W' → X ρ' H' W'
  fn : ∀ {g as H v H'}, S (.func g) as H v H' → Sim P g as H v H' ∨ SimX P g as H v H'
  yl : ∀ {l as H v H'}, S (.yield l) as H v H' → ∀ m ρ W ARGS, β.To ρ H W → X ρ H W → VRs ρ as ARGS → YieldAt (FW r) m P l ARGS W fun e W' => ∃ V ρ', e = .returned V ∧ VR ρ' v V ∧ Nxt ρ H ρ' H' ∧ β.To ρ' H' W' ∧ X ρ' H' W'
  rf : ∀ H, A H H
  tr : ∀ {H1 H2 H3}, A H1 H2 → A H2 H3 → A H1 H3
theorem Snd.toB {P : Program} {r : Option Nat} {S : ACall} {X : Inj → Heap → World → Prop} (h : Snd P r S X) (β : Bas) : SndB P r S X (fun _ _ => True) β := by
  refine ⟨fun a _ b => h.st a b, h.fn, fun hl m ρ W ARGS hB hX hA => ?_, fun _ => trivial, fun _ _ => trivial⟩
  obtain ⟨fn, tmps, assign, body, h1, h2⟩ := h.yl hl m ρ W ARGS hB.mem hX hA
  exact ⟨fn, tmps, assign, body, h1, h2.mono (fun e W' ⟨V, ρ', he, hv, hs⟩ => ⟨V, ρ', he, hv, hs.nxt, hB.trans hs, h.st hX hs⟩)⟩
def ANon (tt : TT) (S : ACall) (o : Oper) (s : Slots) (H H' : Heap) : Prop := match o.op with
  | .call { callee := .value f, args, .. } => ∃ g first cap v, ev s f = .func (.func g) first cap ∧ S (.func g) (first ++ args.map (ev s) ++ cap) H v H'
  | _ => ∃ v, aop tt o.op (ev s) H = some (v, H')
def AdmR (tt : TT) (S : ACall) (ops : Array Oper) (A : Heap → Heap → Prop) : Prop := ∀ (i : Nat) (o : Oper) (s : Slots) (H H' : Heap), ops[i]? = some o → ANon tt S o s H H' → A H H'
structure Rel (n : Nat) (ds : List Deferred) (ρ : Inj) (s : Slots) (H : Heap) (a : Act) (W : World) : Prop where
  mem : Mem ρ H W
  size : a.tmps.size = n
  defers : a.defers = ds
  slots : ∀ t, VR ρ (s t) (a.tmps.getD t undef)
section
variable {P : Program} {tt : TT} {r : Option Nat} {m : Nat} {n : Nat} {ds : List Deferred} {S : ACall} {X : Inj → Heap → World → Prop} {A : Heap → Heap → Prop} {β : Bas}
theorem callsIn_of_calls {f : FuncId} {args : Array Value} {w : World} {R : Ending → World → Prop} (h : Calls P f args w R) : CallsIn (FW r) m P f args w R := by
  have := (callsIn_wide (n := m)).2 h
  exact this
theorem ev_rel {ρ : Inj} {s : Slots} {a : Act} (hs : ∀ t, VR ρ (s t) (a.tmps.getD t undef)) {x : Operand} (hx : constOk x = true) : VR ρ (ev s x) (a.eval x) := by
  cases x with
  | tmp t => exact hs t
  | const v => exact VR.plain hx
  | func f => exact .func f _ _ _ _ rfl rfl (fun i h _ => by simp at h) (fun i h _ => by simp at h)
  | global g => exact .glob g
theorem put_rel {ρ : Inj} {s : Slots} {a : Act} (hs : ∀ t, VR ρ (s t) (a.tmps.getD t undef)) {dst : Option Tmp} (hd : ∀ d, dst = some d → d < a.tmps.size) {v V : Value} (hv : VR ρ v V) :
    ∀ t, VR ρ ((s.put dst v) t) ((a.put dst V).tmps.getD t undef) := by
  intro t
  cases dst with
  | none => exact hs t
  | some d =>
    simp only [Slots.put, Act.put]
    by_cases e : t = d
    · subst e
      have := hd t rfl
      simp [this]; exact hv
    · have := hs t
      simp only [if_neg e]
      have e2 : (a.tmps.setIfInBounds d V).getD t undef = a.tmps.getD t undef := by
        simp [Array.getD_eq_getD_getElem?, Array.getElem?_setIfInBounds, Ne.symm e]
      rw [e2]; exact this
theorem operOk_const {o : Oper} (h : operOk n o = true) : ∀ x ∈ o.op.operands, constOk x = true := by
  unfold operOk at h
  simp only [Bool.and_eq_true, List.all_eq_true] at h
  exact fun x hx => h.2 x (by simpa using hx)
theorem operOk_dst {o : Oper} (h : operOk n o = true) : ∀ d, o.dst = some d → d < n := by
  unfold operOk at h
  simp only [Bool.and_eq_true] at h
  intro d hd
  rw [hd] at h
  simpa using h.1
theorem step_sound {q : Nat} {o : Oper} {s s' : Slots} {H H' : Heap} {ρ : Inj} {a : Act} {W : World} {next : Act → World → Prop} {Q : Exit → Act → World → Prop} (hS : SndB P r S X A β) (hX : lq q o.dst = false → clsOf o.op = .call → X ρ H W ∧ β.To ρ H W) (hT : TOK P tt)
    (h : AStep tt S q o s H s' H') (hk : operOk n o = true) (hM : Mem ρ H W) (hsz : a.tmps.size = n) (hE : ∀ x ∈ o.op.operands, VR ρ (ev s x) (a.eval x))
    (hn : ∀ v V ρ' W', s' = s.put o.dst v → VR ρ' v V → Step ρ H W ρ' H' W' → ANon tt S o s H H' → next (a.put o.dst V) W')
    (hy : lq q o.dst = false → clsOf o.op = .call → ∀ v V ρ' W', s' = s.put o.dst v → VR ρ' v V → Nxt ρ H ρ' H' → β.To ρ' H' W' → X ρ' H' W' → next (a.put o.dst V) W') :
    o.wpIn (FW r) m P a W next Q := by
  refine ⟨fun _ _ => trivial, ?_⟩
  unfold AStep at h
  split at h
  · rename_i f args tys hop
    have hx := hE f (by rw [hop]; simp [Op.operands, Call.operands])
    rcases h with ⟨g, first, cap, v, hf, hSg, _, rfl⟩ | ⟨hq, l, v, hf, hSl, rfl⟩
    case inr =>
      rw [hf] at hx
      have hyi : ∀ Z, VR ρ (.func (.yield l) #[] #[]) Z → Z = .func (.yield l) #[] #[] := by intro Z h; cases h; rfl
      have hX' := hyi _ hx
      have hA : VRs ρ (args.map (ev s)) (args.map a.eval) := VRs.mapArr (fun x hx => hE x (by rw [hop]; simp [Op.operands, Call.operands, hx]))
      have hcl : clsOf o.op = .call := by rw [hop]; rfl
      obtain ⟨fn, tmps, assign, body, hrun, hround⟩ := hS.yl hSl (m - 1) ρ W _ (hX hq hcl).2 (hX hq hcl).1 hA
      have hrun' : ((o.semAt (FW r).round a.eval).run P W) = .ok (.round l fn tmps assign body) W := by
        rw [Oper.semAt_eq _ _ _ (by intro c hc; rw [hop] at hc; cases hc)]
        simp [execOp, hop, resolve, hX', Deferred.ofValue, invoke, hrun]
      rw [hrun']
      refine ⟨fun hd => by simp [FW, Fence.wide] at hd, hround.mono ?_⟩
      rintro e W' ⟨V, ρ', rfl, hv, hnx, hb, hx'⟩
      exact hy hq hcl v V ρ' W' rfl hv hnx hb hx'
    have hNon : ANon tt S o s H H' := by unfold ANon; rw [hop]; exact ⟨g, first, cap, v, hf, hSg⟩
    have hSor := hS.fn hSg
    rw [hf] at hx
    obtain ⟨X, Y, hX⟩ := hx.func_inv
    rw [hX] at hx
    have hXY : VRs ρ first X ∧ VRs ρ cap Y := by cases hx; exact ⟨⟨by assumption, by assumption⟩, ⟨by assumption, by assumption⟩⟩
    have hA : VRs ρ (args.map (ev s)) (args.map a.eval) := VRs.mapArr (fun x hx => hE x (by rw [hop]; simp [Op.operands, Call.operands, hx]))
    have happ : ∀ {a b A B : Array Value}, VRs ρ a A → VRs ρ b B → VRs ρ (a ++ b) (A ++ B) := by
      intro a b A B h k
      have := VRs.append (a := a.toList) (b := b.toList) (A := A) (B := B) (by simpa using h) (by simpa using k)
      have e : (a.toList ++ b.toList).toArray = a ++ b := by apply Array.ext'; simp
      rw [e] at this; exact this
    rcases hSor with ⟨⟨fn, hfn, hname, hbody⟩, hS⟩ | hSX
    case inr =>
      obtain ⟨V, ρ', W', hr, hv, hs⟩ := hSX ρ W (X ++ args.map a.eval ++ Y) hM (happ (happ hXY.1 hA) hXY.2)
      rw [Array.append_assoc] at hr
      have hrun : ((o.semAt (FW r).round a.eval).run P W) = .ok (.value V) W' := by
        rw [Oper.semAt_eq _ _ _ (by intro c hc; rw [hop] at hc; cases hc)]
        simp [execOp, hop, resolve, hX, Deferred.ofValue, invoke, hr]
      rw [hrun]
      exact hn v V ρ' W' rfl hv hs hNon
    have hcall := hS ρ W (X ++ args.map a.eval ++ Y) hM (happ (happ hXY.1 hA) hXY.2)
    have hrun : ((o.semAt (FW r).round a.eval).run P W) = .ok (.enter g (X ++ args.map a.eval ++ Y)) W := by
      rw [Oper.semAt_eq _ _ _ (by intro c hc; rw [hop] at hc; cases hc)]
      have hname' : ¬ fn.name = "runtime.NumGoroutine" := by simpa using hname
      have hbody' : ¬ fn.body = none := fun e => by rw [e] at hbody; cases hbody
      simp [execOp, hop, resolve, hX, Deferred.ofValue, invoke, callFunc, hfn, hname', hbody', program, Sem.run]
    rw [hrun]
    refine ⟨fun hd => by simp [FW, Fence.wide] at hd, callsIn_of_calls (hcall.mono ?_)⟩
    rintro e W' ⟨V, ρ', rfl, hv, hs⟩
    exact hn v V ρ' W' rfl hv hs hNon
  · rename_i hne
    obtain ⟨v, ha, rfl⟩ := h
    have hNon : ANon tt S o s H H' := by
      unfold ANon
      split
      · rename_i f args tys hop
        exact absurd hop (hne f args tys)
      · exact ⟨v, ha⟩
    obtain ⟨nx, V, ρ1, W1, h1, h2, h3, h4⟩ := aop_sim (P := P) (E := a.eval) hT hM ha hE
    have hdef : ∀ c, o.op ≠ .defer c := by
      intro c hc
      rw [hc] at ha
      simp [aop] at ha
    rw [Oper.semAt_eq _ _ _ hdef, h1]
    rcases h2 with rfl | ⟨rfl, rfl⟩
    · exact hn v V ρ1 W1 rfl h3 h4 hNon
    · exact hn v undef ρ1 W1 rfl h3 h4 hNon
theorem yield_rel {ρ : Inj} {ops : Array Oper} {s : Slots} {a : Act} (hs : ∀ t, VR ρ (s t) (a.tmps.getD t undef)) (j : Nat) : yielded ops a.tmps j = yieldA ops s j := by
  unfold yielded yieldA
  cases hd : (ops[j]?).bind (·.dst) with
  | none => simp
  | some d =>
    have := hs d
    simp only [Option.bind_some]
    cases hx : a.tmps[d]? with
    | none =>
      simp [Array.getD_eq_getD_getElem?, hx] at this
      cases hv : s d <;> rw [hv] at this <;> cases this <;> rfl
    | some V =>
      simp [Array.getD_eq_getD_getElem?, hx] at this
      cases hv : s d <;> rw [hv] at this <;> cases this <;> rfl
theorem op_sound {q : Nat} {ops : Array Oper} {i : Nat} {o : Oper} {s s' : Slots} {H H' : Heap} {ρ : Inj} {a : Act} {W : World} {next : Act → World → Prop} {Q : Exit → Act → World → Prop} (hT : TOK P tt)
    (hS : SndB P r S X A β) (hAd : AdmR tt S ops A) (hB : β.To ρ H W) (hX : X ρ H W) (ho : ops[i]? = some o) (h : AOp tt S q ops o s H s' H') (hk : operOk n o = true) (hR : Rel n ds ρ s H a W)
    (hn : ∀ a' ρ' W', Rel n ds ρ' s' H' a' W' → β.To ρ' H' W' → X ρ' H' W' → next a' W') :
    wpOpIn (FW r) m P ops Q i next a W := by
  unfold wpOpIn
  rw [ho]
  simp only
  have hy : yielded ops a.tmps = yieldA ops s := funext (yield_rel hR.slots)
  unfold AOp wantedA at h
  rw [hy]
  have fin : ∀ v V ρ' W', s' = s.put o.dst v → VR ρ' v V → ρ.Le ρ' → Mem ρ' H' W' → Rel n ds ρ' s' H' (a.put o.dst V) W' := by
    rintro v V ρ' W' rfl hv hle hm
    refine ⟨hm, ?_, ?_, put_rel (fun t => (hR.slots t).mono hle) (fun d hd => by rw [hR.size]; exact operOk_dst hk d hd) hv⟩
    · cases o.dst <;> simp [Act.put, hR.size]
    · cases o.dst <;> simp [Act.put, hR.defers]
  split at h
  · rename_i hw
    rw [if_pos hw]
    refine step_sound hS (fun _ _ => ⟨hX, hB⟩) hT h hk hR.mem hR.size (fun x hx => ev_rel hR.slots (operOk_const hk x hx)) ?_ ?_
    · intro v V ρ' W' e hv hs hN
      exact hn _ ρ' W' (fin v V ρ' W' e hv hs.le hs.mem) (hB.trans hs) (hS.st hX (hAd i o s H H' ho hN) hs)
    · intro _ _ v V ρ' W' e hv hnx hb hx'
      exact hn _ ρ' W' (fin v V ρ' W' e hv hnx.1 hb.mem) hb hx'
  · rename_i hw
    rw [if_neg hw]
    obtain ⟨rfl, rfl⟩ := h
    exact ⟨fun _ _ => trivial, hn _ ρ W (fin undef undef ρ W rfl (VR.undef ρ) (.refl ρ) hR.mem) hB hX⟩
theorem ops_ok {ops : Array Oper} (h : ops.toList.all (operOk n) = true) {i : Nat} {o : Oper} (ho : ops[i]? = some o) : operOk n o = true := by
  refine List.all_eq_true.1 h o ?_
  obtain ⟨hi, rfl⟩ := Array.getElem?_eq_some_iff.1 ho
  simp
theorem axI_sound {q : Nat} {ops : Array Oper} (hS : SndB P r S X A β) (hAd : AdmR tt S ops A) (hT : TOK P tt) (hk : ops.toList.all (operOk n) = true) {K : Slots → Heap → Prop} {Q : Exit → Act → World → Prop} : ∀ (l : List Nat) {s : Slots} {H : Heap} {ρ : Inj} {a : Act} {W : World},
    AxI tt S q ops K l s H → β.To ρ H W → X ρ H W → Rel n ds ρ s H a W → (∀ s' H' a' ρ' W', K s' H' → Rel n ds ρ' s' H' a' W' → β.To ρ' H' W' → X ρ' H' W' → Q .normal a' W') →
    wpOpsIn (FW r) m P ops Q l a W := by
  intro l
  induction l with
  | nil => intro s H ρ a W h hB hX hR hn; exact hn s H a ρ W h hR hB hX
  | cons i l ih =>
    intro s H ρ a W h hB hX hR hn
    rw [wpOpsIn_cons]
    unfold AxI at h
    cases ho : ops[i]? with
    | none =>
      rw [ho] at h
      unfold wpOpIn; rw [ho]
      exact ih h hB hX hR hn
    | some o =>
      rw [ho] at h
      obtain ⟨s', H', h1, h2⟩ := h
      refine op_sound hT hS hAd hB hX ho h1 (ops_ok hk ho) hR (fun a' ρ' W' hR' hB' hX' => ih h2 hB' hX' hR' hn)
theorem axAny_sound {ops : Array Oper} (hS : SndB P r S X A β) (hAd : AdmR tt S ops A) (hT : TOK P tt) (hk : ops.toList.all (operOk n) = true) {K : Slots → Heap → Prop} {Q : Exit → Act → World → Prop} : ∀ (f : Nat) (listed : Array Bool) {s : Slots} {H : Heap} {ρ : Inj} {a : Act} {W : World},
    AxAny tt S ops K f listed s H → β.To ρ H W → X ρ H W → Rel n ds ρ s H a W → (∀ s' H' a' ρ' W', K s' H' → Rel n ds ρ' s' H' a' W' → β.To ρ' H' W' → X ρ' H' W' → Q .normal a' W') →
    wpAnyIn (FW r) m P .any ops Q f listed a W := by
  intro f
  induction f with
  | zero => intro listed s H ρ a W h hB hX hR hn; exact ⟨h.1, hn s H a ρ W h.2 hR hB hX⟩
  | succ f ih =>
    intro listed s H ρ a W h hB hX hR hn
    refine ⟨fun hr => hn s H a ρ W (h.1 hr) hR hB hX, fun i hi => ?_⟩
    have h2 := h.2 i hi
    cases ho : ops[i]? with
    | none =>
      rw [ho] at h2
      unfold wpOpIn; rw [ho]
      exact ih _ h2 hB hX hR hn
    | some o =>
      rw [ho] at h2
      obtain ⟨s', H', h3, h4⟩ := h2
      refine op_sound hT hS hAd hB hX ho h3 (ops_ok hk ho) hR (fun a' ρ' W' hR' hB' hX' => ih _ h4 hB' hX' hR' hn)
end
end Go.Fw
namespace Go.Fw
open Go
theorem snocInd {α : Type} {C : List α → Prop} (h0 : C []) (h1 : ∀ l a, C l → C (l ++ [a])) (l : List α) : C l := by
  have : ∀ r : List α, C r.reverse := by
    intro r
    induction r with
    | nil => exact h0
    | cons a r ih => rw [List.reverse_cons]; exact h1 _ _ ih
  have h := this l.reverse
  rwa [List.reverse_reverse] at h
inductive Pre (ops : Array Oper) : Nat → Nat → Prop
  | one {i j : Nat} {o : Oper} : ops[i]? = some o → j ∈ preds o → Pre ops j i
  | more {i j k : Nat} : Pre ops k j → Pre ops j i → Pre ops k i
theorem bits_foldl (acc : List Nat) (j : Nat) : ∀ (l : List Nat) (s : Nat), (l.foldl (fun s j => s ||| 2 ^ j ||| acc.getD j 0) s).testBit j = true →
    s.testBit j = true ∨ ∃ e ∈ l, j = e ∨ (acc.getD e 0).testBit j = true := by
  intro l
  induction l with
  | nil => intro s h; exact .inl h
  | cons e l ih =>
    intro s h
    simp only [List.foldl_cons] at h
    rcases ih _ h with h | ⟨e', he, h⟩
    · rw [Nat.testBit_or, Nat.testBit_or] at h
      simp only [Bool.or_eq_true] at h
      rcases h with (h | h) | h
      · exact .inl h
      · refine .inr ⟨e, by simp, .inl ?_⟩
        rw [Nat.testBit_two_pow] at h
        exact (by simpa using h : e = j).symm
      · exact .inr ⟨e, by simp, .inr h⟩
    · exact .inr ⟨e', by simp [he], h⟩
theorem masks_snoc (l : List Oper) (o : Oper) : masks (l ++ [o]) = masks l ++ [maskOf (masks l) o] := by
  simp [masks, List.foldl_append]
theorem masks_length (l : List Oper) : (masks l).length = l.length := by
  refine snocInd (C := fun l => (masks l).length = l.length) rfl (fun l o ih => ?_) l
  rw [masks_snoc]; simp [ih]
theorem masks_pre (ops : Array Oper) : ∀ (l rest : List Oper), ops.toList = l ++ rest → ∀ i j, i < l.length → ((masks l).getD i 0).testBit j = true → Pre ops j i := by
  intro l
  refine snocInd (C := fun l => ∀ (rest : List Oper), ops.toList = l ++ rest → ∀ i j, i < l.length → ((masks l).getD i 0).testBit j = true → Pre ops j i) (fun rest _ i j hi => by simp at hi) (fun l o ih => ?_) l
  · intro rest h i j hi ht
    rw [masks_snoc] at ht
    by_cases hlt : i < l.length
    · refine ih (o :: rest) (by rw [h]; simp) i j hlt ?_
      rw [List.getD_eq_getElem?_getD, List.getElem?_append_left (by rw [masks_length]; exact hlt), ← List.getD_eq_getElem?_getD] at ht
      exact ht
    · have hil : i = l.length := by simp at hi; omega
      subst hil
      have ho : ops[l.length]? = some o := by
        rw [← Array.getElem?_toList, h]; simp
      rw [List.getD_eq_getElem?_getD, List.getElem?_append_right (by rw [masks_length]; omega), masks_length] at ht
      simp only [Nat.sub_self, List.getElem?_cons_zero, Option.getD_some] at ht
      unfold maskOf at ht
      rcases bits_foldl _ _ _ _ ht with h0 | ⟨e, he, rfl | h0⟩
      · simp at h0
      · exact .one ho he
      · have hel : e < l.length := by
          rcases Nat.lt_or_ge e l.length with hc | hc
          · exact hc
          · rw [List.getD_eq_getElem?_getD, List.getElem?_eq_none (by rw [masks_length]; exact hc)] at h0
            simp at h0
        exact .more (ih (o :: rest) (by rw [h]; simp) e j hel h0) (.one ho he)
def Cmp (ops : Array Oper) (i j : Nat) : Prop := Pre ops i j ∨ Pre ops j i
def Loose (ops : Array Oper) (i j : Nat) (o p : Oper) : Prop :=
  ∃ lt lx st x w a r t, p.op = .load lt lx ∧ o.op = .store st (.tmp x) w ∧ j < a ∧ a < i ∧ ops[a]? = some r ∧ r.guard = none ∧ r.dst = some x ∧ r.op = .alloc t
theorem loose_of {ops : Array Oper} {i j : Nat} {o p : Oper} (h : looseB ops i j o p = true) : Loose ops i j o p := by
  unfold looseB at h
  split at h
  · rename_i lt lx st x w hp ho
    rw [List.any_eq_true] at h
    obtain ⟨⟨r, a⟩, hm, h⟩ := h
    simp only [Bool.and_eq_true, decide_eq_true_eq] at h
    obtain ⟨⟨⟨⟨h1, h2⟩, h3⟩, h4⟩, h5⟩ := h
    have hr : ops[a]? = some r := by simpa using List.mem_zipIdx_iff_getElem?.1 hm
    split at h5
    · rename_i t ht
      exact ⟨lt, lx, st, x, w, a, r, t, hp, ho, h1, h2, hr, by simpa using h3, h4, ht⟩
    · cases h5
  · cases h
structure RegOk (q : Nat) (ops : Array Oper) : Prop where
  back : ∀ (i : Nat) (o : Oper), ops[i]? = some o → ∀ j ∈ preds o, j < i
  once : ∀ (i j : Nat) (o p : Oper) (d : Nat), ops[i]? = some o → ops[j]? = some p → i ≠ j → o.dst = some d → p.dst ≠ some d
  read : ∀ (i j : Nat) (o p : Oper) (d : Nat), ops[i]? = some o → ops[j]? = some p → i ≠ j → o.dst = some d → d ∈ readsT ops p → Cmp ops i j
  muts : ∀ (i j : Nat) (o p : Oper), ops[i]? = some o → ops[j]? = some p → i ≠ j → isMut q o = true → isMem p = true → Cmp ops i j ∨ Loose ops i j o p
theorem regOk_of {q : Nat} {ops : Array Oper} (h : regOk q ops = true) : RegOk q ops := by
  unfold regOk at h
  simp only [Bool.and_eq_true, List.all_eq_true] at h
  obtain ⟨h1, h2⟩ := h
  have mem : ∀ i o, ops[i]? = some o → (o, i) ∈ ops.toList.zipIdx := by
    intro i o ho
    rw [List.mem_zipIdx_iff_getElem?]
    simpa using ho
  have cm : ∀ i j o p, ops[i]? = some o → ops[j]? = some p → cmpb (masks ops.toList) i j = true → Cmp ops i j := by
    intro i j o p ho hp hc
    have hi : i < ops.toList.length := by have := (Array.getElem?_eq_some_iff.1 ho).1; simpa using this
    have hj : j < ops.toList.length := by have := (Array.getElem?_eq_some_iff.1 hp).1; simpa using this
    unfold cmpb at hc
    simp only [Bool.or_eq_true] at hc
    rcases hc with hc | hc
    · exact .inr (masks_pre ops ops.toList [] (by simp) i j hi hc)
    · exact .inl (masks_pre ops ops.toList [] (by simp) j i hj hc)
  have pair : ∀ i j o p, ops[i]? = some o → ops[j]? = some p → i ≠ j → _ := fun i j o p ho hp hne => by
    have := h2 (o, i) (mem i o ho) (p, j) (mem j p hp)
    simp only [Bool.or_eq_true, beq_iff_eq, hne, false_or, Bool.and_eq_true] at this
    exact this
  constructor
  · intro i o ho j hj
    have := h1 (o, i) (mem i o ho) j hj
    simpa using this
  · intro i j o p d ho hp hne hd hd'
    have := (pair i j o p ho hp hne).1.1
    simp [hd, hd'] at this
  · intro i j o p d ho hp hne hd hr
    have := (pair i j o p ho hp hne).1.2
    rw [hd] at this
    simp only [Bool.or_eq_true, Bool.not_eq_true', List.contains_eq_mem, decide_eq_false_iff_not, hr, not_true_eq_false, false_or] at this
    exact cm i j o p ho hp this
  · intro i j o p ho hp hne hm hp'
    have := (pair i j o p ho hp hne).2
    simp only [hm, hp', Bool.and_self, Bool.not_true, Bool.false_or, Bool.or_eq_true] at this
    rcases this with (this | this) | this
    · cases this
    · exact .inl (cm i j o p ho hp this)
    · exact .inr (loose_of this)
theorem Pre.lt {q : Nat} {ops : Array Oper} (h : RegOk q ops) {j i : Nat} (p : Pre ops j i) : j < i := by
  induction p with
  | one ho hj => exact h.back _ _ ho _ hj
  | more _ _ ih1 ih2 => omega
def Down (ops : Array Oper) (L : Nat → Prop) : Prop := ∀ i o, ops[i]? = some o → L i → ∀ j ∈ preds o, L j
theorem Pre.down {ops : Array Oper} {L : Nat → Prop} (hd : Down ops L) {j i : Nat} (p : Pre ops j i) : (L i ∨ (∃ o, ops[i]? = some o ∧ ∀ k ∈ preds o, L k)) → L j := by
  induction p with
  | one ho hj =>
    rintro (h | ⟨o', ho', h⟩)
    · exact hd _ _ ho h _ hj
    · rw [ho] at ho'; cases ho'; exact h _ hj
  | more p1 p2 ih1 ih2 => exact fun h => ih1 (.inl (ih2 h))
structure Trace (tt : TT) (S : ACall) (q : Nat) (ops : Array Oper) (σ : Nat → Slots) (η : Nat → Heap) : Prop where
  step : ∀ i o, ops[i]? = some o → AOp tt S q ops o (σ i) (η i) (σ (i + 1)) (η (i + 1))
theorem trace_of {tt : TT} {S : ACall} {q : Nat} {ops : Array Oper} {K : Slots → Heap → Prop} : ∀ (n k : Nat) (s : Slots) (H : Heap), k + n = ops.size → AxI tt S q ops K (List.range' k n) s H →
    ∃ (σ : Nat → Slots) (η : Nat → Heap), σ k = s ∧ η k = H ∧ (∀ i o, k ≤ i → ops[i]? = some o → AOp tt S q ops o (σ i) (η i) (σ (i + 1)) (η (i + 1))) ∧ K (σ ops.size) (η ops.size) := by
  intro n
  induction n with
  | zero =>
    intro k s H hk h
    refine ⟨fun _ => s, fun _ => H, rfl, rfl, fun i o hi ho => ?_, h⟩
    have := (Array.getElem?_eq_some_iff.1 ho).1; omega
  | succ n ih =>
    intro k s H hk h
    rw [List.range'_succ] at h
    unfold AxI at h
    have hlt : k < ops.size := by omega
    rw [Array.getElem?_eq_getElem hlt] at h
    obtain ⟨s', H', h1, h2⟩ := h
    obtain ⟨σ, η, e1, e2, h3, h4⟩ := ih (k + 1) s' H' (by omega) h2
    refine ⟨fun i => if i = k then s else σ i, fun i => if i = k then H else η i, by simp, by simp, fun i o hi ho => ?_, by simp [show ops.size ≠ k by omega]; exact h4⟩
    by_cases e : i = k
    · subst e
      rw [Array.getElem?_eq_getElem hlt] at ho; cases ho
      simp only [if_pos rfl, if_neg (show i + 1 ≠ i by omega), e1, e2]
      simpa using h1
    · simp only [if_neg e, if_neg (show i + 1 ≠ k by omega)]
      exact h3 i o (by omega) ho
theorem put_other {s : Slots} {dst : Option Tmp} {v : Value} {t : Nat} (h : dst ≠ some t) : (s.put dst v) t = s t := by
  cases dst with
  | none => rfl
  | some d => simp only [Slots.put]; rw [if_neg (fun e => h (by rw [e]))]
theorem AOp.put {tt : TT} {S : ACall} {q : Nat} {ops : Array Oper} {o : Oper} {s s' : Slots} {H H' : Heap} (h : AOp tt S q ops o s H s' H') : ∃ v, s' = s.put o.dst v := by
  unfold AOp at h
  split at h
  · unfold AStep at h
    split at h
    · rcases h with ⟨_, _, _, v, _, _, _, h⟩ | ⟨_, _, v, _, _, h⟩ <;> exact ⟨v, h⟩
    · obtain ⟨v, _, h⟩ := h; exact ⟨v, h⟩
  · exact ⟨undef, h.1⟩
section
variable {tt : TT} {S : ACall} {q : Nat} {ops : Array Oper} {σ : Nat → Slots} {η : Nat → Heap}
theorem Trace.keep (T : Trace tt S q ops σ η) {t i : Nat} : ∀ n, i + n ≤ ops.size → (∀ k o, i ≤ k → k < i + n → ops[k]? = some o → o.dst ≠ some t) → σ (i + n) t = σ i t := by
  intro n
  induction n with
  | zero => intro _ _; rfl
  | succ n ih =>
    intro hn h
    have hlt : i + n < ops.size := by omega
    have ho := Array.getElem?_eq_getElem hlt
    obtain ⟨v, hv⟩ := (T.step (i + n) _ ho).put
    have e : σ (i + (n + 1)) t = σ (i + n) t := by
      show σ (i + n + 1) t = _
      rw [hv]; exact put_other (h (i + n) _ (by omega) (by omega) ho)
    rw [e]; exact ih (by omega) (fun k o h1 h2 => h k o h1 (by omega))
end
end Go.Fw
namespace Go.Fw
open Go
section
variable {P : Program} {tt : TT} {q : Nat} {r : Option Nat} {S : ACall} {X : Inj → Heap → World → Prop} {A : Heap → Heap → Prop} {β : Bas}
theorem pure_aop {op : Op} {e : Operand → Value} {H H' : Heap} {v : Value} (hc : clsOf op = .pure) (h : aop tt op e H = some (v, H')) :
    H' = H ∧ ∀ H2, aop tt op e H2 = some (v, H2) := by
  cases op
  case call c =>
    obtain ⟨callee, args, tys⟩ := c
    cases callee with
    | value f => cases (show Cls.call = Cls.pure from hc)
    | invoke r m => cases (show Cls.mut = Cls.pure from hc)
    | builtin b =>
      simp only [aop] at h ⊢
      cases b <;> first | (cases (show Cls.mut = Cls.pure from hc); done) | skip
      all_goals
        unfold aBuiltin at h ⊢
        split at h <;> first | (cases h; done) | skip
        all_goals first | (rename_i e1 e2; cases e1; done) | skip
        all_goals
          simp only [Option.map_eq_some_iff] at h ⊢
          obtain ⟨a, ha, he⟩ := h
          cases he
          rename_i e1
          refine ⟨rfl, fun H2 => ?_⟩
          simp only [e1, ha, Option.map_some]
          exact ⟨_, rfl, rfl⟩
  case pick c a b =>
    simp only [aop] at h ⊢
    split at h
    · cases h; exact ⟨rfl, fun _ => rfl⟩
    · cases h
  case nilCheck x =>
    simp only [aop] at h ⊢
    split at h
    · cases h; exact ⟨rfl, fun _ => rfl⟩
    · cases h; exact ⟨rfl, fun _ => rfl⟩
    · cases h
  case makeFunc fn first cap =>
    cases fn <;> simp only [aop, reduceCtorEq] at h
    cases h; exact ⟨rfl, fun _ => rfl⟩
  case extract x i =>
    simp only [aop] at h ⊢
    split at h
    · simp only [Option.map_eq_some_iff] at h ⊢
      obtain ⟨a, ha, he⟩ := h
      cases he
      exact ⟨rfl, fun H2 => ⟨_, ha, rfl⟩⟩
    · cases h
  all_goals
    first
    | (cases (show Cls.mut = Cls.pure from hc); done)
    | (cases (show Cls.quiet = Cls.pure from hc); done)
    | (simp only [aop, Option.map_eq_some_iff] at h ⊢
       obtain ⟨a, ha, he⟩ := h
       cases he
       exact ⟨rfl, fun H2 => ⟨_, ha, rfl⟩⟩)
    | (simp only [aop, Option.some.injEq, Prod.mk.injEq] at h ⊢
       obtain ⟨rfl, rfl⟩ := h
       exact ⟨rfl, fun _ => by simp⟩)
theorem quiet_aop {op : Op} {e : Operand → Value} {H H' : Heap} {v : Value} (hc : clsOf op = .quiet) (h : aop tt op e H = some (v, H')) : ∃ G, H' = H ++ G := by
  cases op
  case call c =>
    obtain ⟨callee, args, tys⟩ := c
    cases callee with
    | value f => cases (show Cls.call = Cls.quiet from hc)
    | invoke r m => cases (show Cls.mut = Cls.quiet from hc)
    | builtin b => cases b <;> first | (cases (show Cls.mut = Cls.quiet from hc); done) | (cases (show Cls.pure = Cls.quiet from hc); done)
  case alloc t =>
    simp only [aop] at h
    split at h
    · cases h; exact ⟨_, rfl⟩
    · cases h
  case box t x => simp only [aop] at h; cases h; exact ⟨_, rfl⟩
  case buildSlice t n ps =>
    simp only [aop, aBuildSlice] at h
    repeat' split at h
    all_goals first | (cases h; done) | (cases h; exact ⟨_, rfl⟩)
  case makeSlice t l c =>
    simp only [aop, aMakeSlice] at h
    repeat' split at h
    all_goals first | (cases h; done) | (cases h; exact ⟨_, rfl⟩)
  all_goals
    first
    | (cases (show Cls.mut = Cls.quiet from hc); done)
    | (cases (show Cls.pure = Cls.quiet from hc); done)
    | (simp only [aop, Option.map_eq_some_iff] at h
       obtain ⟨a, ha, he⟩ := h
       cases he
       exact ⟨[], by simp⟩)
def Real (s : Slots) (H : Heap) (ρ : Inj) (W : World) : Prop := Mem ρ H W ∧ ∀ t, ∃ V, VR ρ (s t) V
theorem real_step {o : Oper} {s s' : Slots} {H H' : Heap} {ρ : Inj} {W : World} {ops : Array Oper} {n : Nat} (hS : SndB P r S X A β) (hAd : AdmR tt S ops A) {i : Nat} (ho : ops[i]? = some o) (hX : X ρ H W) (hB : β.To ρ H W) (hT : TOK P tt) (hk : operOk n o = true) (h : AOp tt S q ops o s H s' H') (hr : Real s H ρ W) :
    ∃ ρ' W', Real s' H' ρ' W' ∧ Nxt ρ H ρ' H' ∧ β.To ρ' H' W' ∧ X ρ' H' W' := by
  have hput : ∀ {ρ' : Inj} {v V : Value} (dst : Option Tmp), ρ.Le ρ' → VR ρ' v V → ∀ t, ∃ V, VR ρ' ((s.put dst v) t) V := by
    intro ρ' v V dst hle hv t
    cases dst with
    | none => obtain ⟨V, h⟩ := hr.2 t; exact ⟨V, h.mono hle⟩
    | some d =>
      simp only [Slots.put]
      split
      · exact ⟨V, hv⟩
      · obtain ⟨V, h⟩ := hr.2 t; exact ⟨V, h.mono hle⟩
  unfold AOp at h
  split at h
  · have hE : ∃ E : Operand → Value, ∀ x ∈ o.op.operands, VR ρ (ev s x) (E x) := by
      have : ∀ x : Operand, ∃ V, constOk x = true → VR ρ (ev s x) V := by
        intro x
        cases x with
        | tmp t => obtain ⟨V, h⟩ := hr.2 t; exact ⟨V, fun _ => h⟩
        | const v => exact ⟨v, fun h => VR.plain h⟩
        | func f => exact ⟨_, fun _ => .func f _ _ _ _ rfl rfl (fun i h _ => by simp at h) (fun i h _ => by simp at h)⟩
        | global g => exact ⟨_, fun _ => .glob g⟩
      refine ⟨fun x => Classical.choose (this x), fun x hx => Classical.choose_spec (this x) (operOk_const hk x hx)⟩
    obtain ⟨E, hE⟩ := hE
    unfold AStep at h
    split at h
    · rename_i f args tys hop
      have hx := hE f (by rw [hop]; simp [Op.operands, Call.operands])
      rcases h with ⟨g, first, cap, v, hf, hSg, _, rfl⟩ | ⟨hq, l, v, hf, hSl, rfl⟩
      case inr =>
        have hA : VRs ρ (args.map (ev s)) (args.map E) := VRs.mapArr (fun x hx => hE x (by rw [hop]; simp [Op.operands, Call.operands, hx]))
        obtain ⟨fn, tmps, assign, body, _, hround⟩ := hS.yl hSl 0 ρ W _ hB hX hA
        obtain ⟨e, W', ⟨V, ρ', rfl, hv, hnx, hb, hx'⟩, _⟩ := hround.2 default [] (by simp [FW, Fence.wide, Fence.room])
        exact ⟨ρ', W', ⟨hb.mem, hput o.dst hnx.1 hv⟩, hnx, hb, hx'⟩
      have hN : ANon tt S o s H H' := by unfold ANon; rw [hop]; exact ⟨g, first, cap, v, hf, hSg⟩
      have hSor := hS.fn hSg
      rw [hf] at hx
      obtain ⟨X', Y, hXX⟩ := hx.func_inv
      rw [hXX] at hx
      have hXY : VRs ρ first X' ∧ VRs ρ cap Y := by cases hx; exact ⟨⟨by assumption, by assumption⟩, ⟨by assumption, by assumption⟩⟩
      have hA : VRs ρ (args.map (ev s)) (args.map E) := VRs.mapArr (fun x hx => hE x (by rw [hop]; simp [Op.operands, Call.operands, hx]))
      have happ : ∀ {a b A B : Array Value}, VRs ρ a A → VRs ρ b B → VRs ρ (a ++ b) (A ++ B) := by
        intro a b A B h k
        have := VRs.append (a := a.toList) (b := b.toList) (A := A) (B := B) (by simpa using h) (by simpa using k)
        have e : (a.toList ++ b.toList).toArray = a ++ b := by apply Array.ext'; simp
        rw [e] at this; exact this
      rcases hSor with ⟨_, hS1⟩ | hSX
      case inr =>
        obtain ⟨V, ρ', W', _, hv, hs⟩ := hSX ρ W (X' ++ args.map E ++ Y) hr.1 (happ (happ hXY.1 hA) hXY.2)
        exact ⟨ρ', W', ⟨hs.mem, hput o.dst hs.le hv⟩, hs.nxt, hB.trans hs, hS.st hX (hAd i o s H H' ho hN) hs⟩
      obtain ⟨e, W', fr, ⟨V, ρ', rfl, hv, hs⟩, _⟩ := hS1 ρ W (X' ++ args.map E ++ Y) hr.1 (happ (happ hXY.1 hA) hXY.2) []
      exact ⟨ρ', W', ⟨hs.mem, hput o.dst hs.le hv⟩, hs.nxt, hB.trans hs, hS.st hX (hAd i o s H H' ho hN) hs⟩
    · rename_i hne
      obtain ⟨v, ha, rfl⟩ := h
      have hN : ANon tt S o s H H' := by
        unfold ANon
        split
        · rename_i f args tys hop
          exact absurd hop (hne f args tys)
        · exact ⟨v, ha⟩
      obtain ⟨nx, V, ρ1, W1, h1, h2, h3, h4⟩ := aop_sim (P := P) (E := E) hT hr.1 ha hE
      exact ⟨ρ1, W1, ⟨h4.mem, hput o.dst h4.le h3⟩, h4.nxt, hB.trans h4, hS.st hX (hAd i o s H H' ho hN) h4⟩
  · obtain ⟨rfl, rfl⟩ := h
    exact ⟨ρ, W, ⟨hr.1, hput o.dst (.refl _) (VR.undef ρ)⟩, (Step.refl hr.1).nxt, hB, hX⟩
theorem real_trace {ops : Array Oper} {σ : Nat → Slots} {η : Nat → Heap} {n : Nat} (hS : SndB P r S X A β) (hT : TOK P tt) (hk : ops.toList.all (operOk n) = true) (T : Trace tt S q ops σ η) (hAd : AdmR tt S ops A) {ρ : Inj} {W : World} (hX : X ρ (η 0) W) (hB : β.To ρ (η 0) W) (hr : Real (σ 0) (η 0) ρ W) :
    ∀ i, i ≤ ops.size → ∃ ρ' W', Real (σ i) (η i) ρ' W' ∧ (η 0).length ≤ (η i).length ∧ β.To ρ' (η i) W' ∧ X ρ' (η i) W' := by
  intro i
  induction i with
  | zero => intro _; exact ⟨ρ, W, hr, Nat.le_refl _, hB, hX⟩
  | succ i ih =>
    intro hi
    obtain ⟨ρ1, W1, h1, h2, h3, h4⟩ := ih (by omega)
    have ho := Array.getElem?_eq_getElem (show i < ops.size by omega)
    obtain ⟨ρ2, W2, g1, g2, g3, g4⟩ := real_step hS hAd ho h4 h3 hT (ops_ok hk ho) (T.step i _ ho) h1
    exact ⟨ρ2, W2, g1, Nat.le_trans h2 g2.2.1, g3, g4⟩
theorem len_step {o : Oper} {ops : Array Oper} {σ : Nat → Slots} {η : Nat → Heap} {n i : Nat} (hS : SndB P r S X A β) (hT : TOK P tt) (hk : ops.toList.all (operOk n) = true) (T : Trace tt S q ops σ η) (hAd : AdmR tt S ops A) {ρ : Inj} {W : World} (hX : X ρ (η 0) W) (hB : β.To ρ (η 0) W) (hr : Real (σ 0) (η 0) ρ W)
    (hi : i < ops.size) : (η i).length ≤ (η (i + 1)).length := by
  obtain ⟨ρ1, W1, h1, h2, h3, h4⟩ := real_trace hS hT hk T hAd hX hB hr i (by omega)
  have ho := Array.getElem?_eq_getElem hi
  obtain ⟨ρ2, W2, g1, g2, g3, g4⟩ := real_step hS hAd ho h4 h3 hT (ops_ok hk ho) (T.step i _ ho) h1
  exact g2.2.1
theorem grow_step {o : Oper} {ops : Array Oper} {σ : Nat → Slots} {η : Nat → Heap} {i : Nat} (T : Trace tt S q ops σ η) (ho : ops[i]? = some o) (hm : isMut q o = false) : ∃ G, η (i + 1) = η i ++ G := by
  have h := T.step i o ho
  unfold AOp at h
  split at h
  · unfold isMut at hm
    unfold AStep at h
    split at h
    · rename_i f args tys hop
      rw [hop] at hm
      have : lq q o.dst = true := by simpa [clsOf] using hm
      rcases h with ⟨g, first, cap, v, hf, _, hq, _⟩ | ⟨hq, _⟩
      · exact hq this
      · rw [this] at hq; cases hq
    · obtain ⟨v, ha, _⟩ := h
      cases hc : clsOf o.op with
      | pure => exact ⟨[], by rw [(pure_aop hc ha).1]; simp⟩
      | quiet => exact quiet_aop hc ha
      | «mut» => rw [hc] at hm; cases hm
      | call =>
        exfalso
        cases hop : o.op <;> rw [hop] at hc <;> first | (cases (show Cls.mut = Cls.call from hc); done) | (cases (show Cls.quiet = Cls.call from hc); done) | (cases (show Cls.pure = Cls.call from hc); done) | skip
        rename_i c
        obtain ⟨callee, args, tys⟩ := c
        cases callee with
        | value f => rename_i hne _; exact hne f args tys hop
        | invoke r m => cases (show Cls.mut = Cls.call from hc)
        | builtin b => cases b <;> first | (cases (show Cls.mut = Cls.call from hc); done) | (cases (show Cls.pure = Cls.call from hc); done)
  · exact ⟨[], by rw [h.2]; simp⟩
theorem grow_steps {ops : Array Oper} {σ : Nat → Slots} {η : Nat → Heap} (T : Trace tt S q ops σ η) (i : Nat) : ∀ n, i + n ≤ ops.size → (∀ k o, i ≤ k → k < i + n → ops[k]? = some o → isMut q o = false) → ∃ G, η (i + n) = η i ++ G := by
  intro n
  induction n with
  | zero => intro _ _; exact ⟨[], by simp⟩
  | succ n ih =>
    intro hn h
    obtain ⟨G, hG⟩ := ih (by omega) (fun k o h1 h2 => h k o h1 (by omega))
    have ho := Array.getElem?_eq_getElem (show i + n < ops.size by omega)
    obtain ⟨G', hG'⟩ := grow_step T ho (h (i + n) _ (by omega) (by omega) ho)
    exact ⟨G ++ G', by show η (i + n + 1) = _; rw [hG', hG, List.append_assoc]⟩
theorem Step.grow {ρ : Inj} {H : Heap} {W : World} (h : Mem ρ H W) (G : Heap) : Step ρ H W ρ (H ++ G) W := by
  refine ⟨⟨fun b hb => by have := h.dom b hb; simp; omega, fun b hb => ?_, fun b p hb => ?_, fun b b' p p' B hne hb hb' hB ho => ?_⟩, by simp, .refl _, fun _ _ h => h, fun b p B hb hB _ => ?_, ⟨rfl, rfl, rfl, Nat.le_refl _, fun _ _ _ => rfl⟩⟩
  · rw [List.getElem?_append_left (h.dom b (by simp [hb]))]; exact h.gone b hb
  · obtain ⟨B, hB, l⟩ := h.lies b p hb
    exact ⟨B, by rw [List.getElem?_append_left (h.dom b (by simp [hb]))]; exact hB, l⟩
  · rw [List.getElem?_append_left (h.dom b (by simp [hb]))] at hB
    exact h.apart b b' p p' B hne hb hb' hB ho
  · rw [List.getElem?_append_left (h.dom b (by simp [hb]))] at hB
    exact ⟨b, p, B, hb, hB, rfl, id⟩
end
end Go.Fw
