/- The plain law of fractions; Fractions: order, floor, quotient; angles; Angles are in order; The simplest fraction between two; More for walking; Knuth's digit; Knuth's digit, plain; Two results that are loaded and stored in any order; Rotations as values; A range over a function, at the abstract machine; A range over a function, at the abstract machine: the machine does the same; Functions that hold a range over a function; Rows of elements of several cells; Iterators: walking; Sorting by insertion, in plain lists. Conditions: none. -/
import Derived.Test.YthhmkaikopdmjaaGreatFb
import Derived.RangeFuncLeaves
set_option linter.unusedSimpArgs false
set_option linter.unusedVariables false
namespace Go.Fw
open Go

theorem gcd_fdiv (z : Int) (g : Nat) (hg : 0 < g) : z.fdiv (g : Int) = z / (g : Int) := Int.fdiv_eq_ediv_of_nonneg _ (by omega)
theorem mkRat_num' (n : Int) {d : Nat} (hd : 0 < d) : (mkRat n d).num = n / ((Nat.gcd n.natAbs d : Nat) : Int) := by
  rw [Rat.num_mkRat, if_neg (by omega), Nat.gcd_comm]
theorem mkRat_den' (n : Int) {d : Nat} (hd : 0 < d) : (mkRat n d).den = d / (Nat.gcd n.natAbs d) := by
  rw [Rat.den_mkRat, if_neg (by omega), Nat.gcd_comm]
theorem mkRat_neg_iff (n : Int) {d : Nat} (hd : 0 < d) : (mkRat n d).num < 0 ↔ n < 0 := by
  rw [mkRat_num' n hd]
  have hg : 0 < Nat.gcd n.natAbs d := Nat.gcd_pos_of_pos_right _ hd
  constructor
  · intro h
    exact Int.lt_of_not_ge fun h0 => by have := Int.ediv_nonneg h0 (show (0 : Int) ≤ ((Nat.gcd n.natAbs d : Nat) : Int) by omega); omega
  · intro h
    exact Int.ediv_neg_of_neg_of_pos h (by omega)
theorem mkRat_zero_iff (n : Int) {d : Nat} (hd : 0 < d) : (mkRat n d).num = 0 ↔ n = 0 := by
  rw [Rat.num_eq_zero]
  exact Rat.mkRat_eq_zero (by omega)
theorem mkQ_zero : mkQ 0 = qV false [] [] := by
  unfold mkQ
  rw [show (0 : Rat).num = 0 from rfl, show (0 : Rat).den = 1 from rfl]
  rw [show (0 : Int).natAbs = 0 from rfl, digB_zero]
  rfl
theorem qV_inj {g g' : Bool} {n n' d d' : List UInt8} : qV g n d = qV g' n' d' ↔ g = g' ∧ n = n' ∧ d = d' := by
  unfold qV
  constructor
  · intro h
    injection h with h
    injection h with h
    injection h with h1 h2
    injection h2 with h2 h3
    injection h3 with h3 _
    injection h1 with h1
    injection h2 with h2
    injection h3 with h3
    exact ⟨h1, bs_inj.1 h2, bs_inj.1 h3⟩
  · rintro ⟨rfl, rfl, rfl⟩; rfl
theorem mkQ_inj {x y : Rat} : mkQ x = mkQ y ↔ x = y := by
  constructor
  · intro h
    have ⟨h1, h2, h3⟩ := qV_inj.1 h
    have e1 := qval_mk x
    have e2 := qval_mk y
    rw [h1, h2, h3] at e1
    exact e1.symm.trans e2
  · rintro rfl; rfl

/-- how large a fraction is -/
structure Sz (q : Rat) (k : Nat) : Prop where
  num : q.num.natAbs < 2 ^ k
  den : q.den < 2 ^ k
theorem Sz.mono {q : Rat} {k k' : Nat} (h : Sz q k) (hk : k ≤ k') : Sz q k' :=
  ⟨Nat.lt_of_lt_of_le h.num (Nat.pow_le_pow_right (by decide) hk), Nat.lt_of_lt_of_le h.den (Nat.pow_le_pow_right (by decide) hk)⟩
theorem mkRat_le (n : Int) {d : Nat} (hd : 0 < d) : (mkRat n d).num.natAbs ≤ n.natAbs ∧ (mkRat n d).den ≤ d := by
  rw [mkRat_num' n hd, mkRat_den' n hd]
  have hg : 0 < Nat.gcd n.natAbs d := Nat.gcd_pos_of_pos_right _ hd
  refine ⟨?_, Nat.div_le_self _ _⟩
  have hdv : ((Nat.gcd n.natAbs d : Nat) : Int) ∣ n := by
    exact Int.ofNat_dvd_left.2 (Nat.gcd_dvd_left _ _)
  rw [Int.natAbs_ediv_of_dvd hdv]
  exact Nat.div_le_self _ _
theorem Sz.of {n : Int} {d k : Nat} (hd : 0 < d) (h1 : n.natAbs < 2 ^ k) (h2 : d < 2 ^ k) : Sz (mkRat n d) k :=
  let ⟨h3, h4⟩ := mkRat_le n hd
  ⟨by omega, by omega⟩
theorem Sz.neg {q : Rat} {k : Nat} (h : Sz q k) : Sz (-q) k := ⟨by rw [Rat.neg_num, Int.natAbs_neg]; exact h.num, by rw [Rat.neg_den]; exact h.den⟩
theorem add_eq (a b : Rat) : a + b = mkRat (a.num * b.den + b.num * a.den) (a.den * b.den) := by
  conv => lhs; rw [← Rat.mkRat_self a, ← Rat.mkRat_self b]
  exact Rat.mkRat_add_mkRat _ _ a.den_nz b.den_nz
theorem mul_eq (a b : Rat) : a * b = mkRat (a.num * b.num) (a.den * b.den) := by
  conv => lhs; rw [← Rat.mkRat_self a, ← Rat.mkRat_self b]
  exact Rat.mkRat_mul_mkRat _ _ _ _
theorem lt_mul_pow {a b j k : Nat} (ha : a < 2 ^ j) (hb : b < 2 ^ k) : a * b < 2 ^ (j + k) := by
  rw [Nat.pow_add]; exact Nat.mul_lt_mul'' ha hb
theorem Sz.add {a b : Rat} {j k : Nat} (ha : Sz a j) (hb : Sz b k) : Sz (a + b) (j + k + 1) := by
  rw [add_eq]
  refine Sz.of (Nat.mul_pos a.den_pos b.den_pos) ?_ ?_
  · have h1 := lt_mul_pow ha.num hb.den
    have h2 := lt_mul_pow hb.num ha.den
    have := Int.natAbs_add_le (a.num * b.den) (b.num * a.den)
    rw [Int.natAbs_mul, Int.natAbs_mul, Int.natAbs_natCast, Int.natAbs_natCast] at this
    rw [Nat.add_comm k j] at h2
    rw [Nat.pow_succ]
    omega
  · have := lt_mul_pow ha.den hb.den
    rw [Nat.pow_succ]; omega
theorem Sz.mul {a b : Rat} {j k : Nat} (ha : Sz a j) (hb : Sz b k) : Sz (a * b) (j + k) := by
  rw [mul_eq]
  refine Sz.of (Nat.mul_pos a.den_pos b.den_pos) ?_ (lt_mul_pow ha.den hb.den)
  rw [Int.natAbs_mul]; exact lt_mul_pow ha.num hb.num
theorem Sz.sub {a b : Rat} {j k : Nat} (ha : Sz a j) (hb : Sz b k) : Sz (a - b) (j + k + 1) := by rw [Rat.sub_eq_add_neg]; exact ha.add hb.neg
theorem Sz.inv {a : Rat} {k : Nat} (ha : Sz a k) (hk : 0 < k) : Sz a⁻¹ k := by
  by_cases h0 : a = 0
  · subst h0
    rw [Rat.inv_zero]; exact ha
  have hn : a.num ≠ 0 := fun h => h0 (Rat.num_eq_zero.1 h)
  rcases Int.lt_trichotomy 0 a.num with h | h | h
  · have : a⁻¹ = mkRat a.den a.num.natAbs := by
      rw [Rat.inv_def]
      obtain ⟨m, hm⟩ : ∃ m : Nat, a.num = m := ⟨a.num.natAbs, by omega⟩
      rw [hm, Rat.divInt_ofNat]; rfl
    rw [this]
    exact Sz.of (by omega) ha.den ha.num
  · exact absurd h.symm hn
  · have : a⁻¹ = mkRat (-a.den) a.num.natAbs := by
      rw [Rat.inv_def]
      obtain ⟨m, hm⟩ : ∃ m : Nat, a.num = -(m : Int) := ⟨a.num.natAbs, by omega⟩
      rw [hm, Rat.divInt_neg', Rat.divInt_ofNat]
      simp
    rw [this]
    exact Sz.of (by omega) (by rw [Int.natAbs_neg]; exact ha.den) ha.num
theorem Sz.div {a b : Rat} {j k : Nat} (ha : Sz a j) (hb : Sz b k) (hk : 0 < k) : Sz (a / b) (j + k) := by
  rw [Rat.div_def]; exact ha.mul (hb.inv hk)

/-- a value of the program that stands for a fraction -/
structure QA (g : Bool) (n d : List UInt8) (q : Rat) (k : Nat) : Prop where
  val : qval g n d = q
  num : 8 * n.length ≤ k
  den : 8 * d.length ≤ k
theorem digB_len2 {n k : Nat} (h : n < 2 ^ k) : 8 * (digB n).length ≤ k + 7 := by
  have := digB_len n ((k + 7) / 8) (by
    rw [pow_d]
    exact Nat.lt_of_lt_of_le h (Nat.pow_le_pow_right (by decide) (by omega)))
  omega
theorem denB_len {d k : Nat} (h : d < 2 ^ k) : 8 * (denB d).length ≤ k + 7 := by
  unfold denB
  split
  · simp
  · exact digB_len2 h
theorem Sz.qa {q : Rat} {k : Nat} (h : Sz q k) : QA (decide (q.num < 0)) (digB q.num.natAbs) (denB q.den) q (k + 7) :=
  ⟨qval_mk q, digB_len2 h.num, denB_len h.den⟩
theorem valB_lt2 (m : List UInt8) {k : Nat} (h : 8 * m.length ≤ k) : valB m < 2 ^ k := by
  have := valB_lt m
  rw [pow_d] at this
  exact Nat.lt_of_lt_of_le this (Nat.pow_le_pow_right (by decide) h)
theorem QA.sz {g : Bool} {n d : List UInt8} {q : Rat} {k : Nat} (h : QA g n d q k) : Sz q (k + 1) := by
  rw [← h.val]
  have h1 := valB_lt2 n h.num
  have h2 := valB_lt2 d h.den
  refine Sz.of (dval_pos d) (by rw [ival_abs, Nat.pow_succ]; omega) ?_
  unfold dval
  rw [Nat.pow_succ]
  have : 0 < 2 ^ k := Nat.pow_pos (by decide)
  split <;> omega
/-- the same as its canonical form? -/
theorem qV_canon {g : Bool} {n d : List UInt8} : qV g n d = mkQ (qval g n d) ↔ ∃ q, qV g n d = mkQ q := by
  constructor
  · intro h; exact ⟨_, h⟩
  · rintro ⟨q, h⟩
    have ⟨h1, h2, h3⟩ := qV_inj.1 h
    rw [h1, h2, h3, qval_mk]; rfl
/-- a value of the program that stands for an integer -/
def IA (v : Value) (z : Int) (k : Nat) : Prop := ∃ g m, v = iV g m ∧ ival g m = z ∧ 8 * m.length ≤ k
theorem IA.mk {z : Int} {k : Nat} (h : z.natAbs < 2 ^ k) : IA (mkI z) z (k + 7) := ⟨_, _, rfl, ival_mk z, digB_len2 h⟩
theorem IA.raw (g : Bool) (m : List UInt8) {k : Nat} (h : 8 * m.length ≤ k) : IA (iV g m) (ival g m) k := ⟨g, m, rfl, rfl, h⟩
theorem IA.sz {v : Value} {z : Int} {k : Nat} (h : IA v z k) : z.natAbs < 2 ^ k := by
  obtain ⟨g, m, rfl, rfl, h⟩ := h
  rw [ival_abs]; exact valB_lt2 m h
theorem IA.mono {v : Value} {z : Int} {k k' : Nat} (h : IA v z k) (hk : k ≤ k') : IA v z k' := by
  obtain ⟨g, m, h1, h2, h3⟩ := h
  exact ⟨g, m, h1, h2, by omega⟩
/-- a value of the program that stands for a fraction -/
def QV (v : Value) (q : Rat) (k : Nat) : Prop := ∃ g n d, v = qV g n d ∧ qval g n d = q ∧ 8 * n.length ≤ k ∧ 8 * d.length ≤ k
theorem QV.raw (g : Bool) (n d : List UInt8) {k : Nat} (h : 8 * n.length ≤ k) (h' : 8 * d.length ≤ k) : QV (qV g n d) (qval g n d) k := ⟨g, n, d, rfl, rfl, h, h'⟩
theorem Sz.qv {q : Rat} {k : Nat} (h : Sz q k) : QV (mkQ q) q (k + 7) := ⟨_, _, _, rfl, qval_mk q, digB_len2 h.num, denB_len h.den⟩
theorem QV.sz {v : Value} {q : Rat} {k : Nat} (h : QV v q k) : Sz q (k + 1) := by
  obtain ⟨g, n, d, rfl, h1, h2, h3⟩ := h
  exact QA.sz ⟨h1, h2, h3⟩
theorem QV.mono {v : Value} {q : Rat} {k k' : Nat} (h : QV v q k) (hk : k ≤ k') : QV v q k' := by
  obtain ⟨g, n, d, h1, h2, h3, h4⟩ := h
  exact ⟨g, n, d, h1, h2, by omega, by omega⟩
/-- a numerator and a denominator -/
def fV (g : Bool) (n : List UInt8) (g' : Bool) (d : List UInt8) : Value := .agg #[.bool g, .string (bs n), .bool g', .string (bs d)]
def FV (v : Value) (n d : Int) (k : Nat) : Prop := ∃ g m g' m', v = fV g m g' m' ∧ ival g m = n ∧ ival g' m' = d ∧ 8 * m.length ≤ k ∧ 8 * m'.length ≤ k
def ofV (g : Bool) (n d : List UInt8) : Value := fV g n false (if valB d = 0 then digB 1 else d)
theorem ofV_FV (g : Bool) (n d : List UInt8) {k : Nat} (h : 8 * n.length ≤ k) (h' : 8 * d.length ≤ k) (hk : 8 ≤ k) : FV (ofV g n d) (ival g n) (dval d) k := by
  refine ⟨_, _, _, _, rfl, rfl, ?_, h, ?_⟩
  · unfold ival dval
    by_cases h0 : valB d = 0
    · simp only [h0, if_true]; rw [valB_dig]; rfl
    · simp only [h0, if_false]; rfl
  · by_cases h0 : valB d = 0
    · simp only [h0, if_true]
      have := digB_len2 (n := 1) (k := 1) (by decide)
      omega
    · simp only [h0, if_false]; exact h'
theorem fV_mk (x y : Int) : fV (decide (x < 0)) (digB x.natAbs) (decide (y < 0)) (digB y.natAbs) = .agg ((mkI x).cells ++ (mkI y).cells) := rfl
theorem FV.mk {x y : Int} {k : Nat} (hx : x.natAbs < 2 ^ k) (hy : y.natAbs < 2 ^ k) : FV (fV (decide (x < 0)) (digB x.natAbs) (decide (y < 0)) (digB y.natAbs)) x y (k + 7) :=
  ⟨_, _, _, _, rfl, ival_mk x, ival_mk y, digB_len2 hx, digB_len2 hy⟩
theorem denB_one : denB 1 = [] := rfl
theorem mkQ_pos {n : Int} {d : Nat} (hd : 0 < d) : mkQ (mkRat n d) = qV (decide (n < 0)) (digB (n / ((Nat.gcd n.natAbs d : Nat) : Int)).natAbs) (denB (d / Nat.gcd n.natAbs d)) := by
  unfold mkQ
  simp only [mkRat_neg_iff n hd]
  rw [mkRat_num' n hd, mkRat_den' n hd]
/-- rotations as values -/
def rV (g : Bool) (n d : List UInt8) (g' : Bool) (n' d' : List UInt8) : Value := .agg #[.bool g, .string (bs n), .string (bs d), .bool g', .string (bs n'), .string (bs d')]
def mkR (c s : Rat) : Value := rV (decide (c.num < 0)) (digB c.num.natAbs) (denB c.den) (decide (s.num < 0)) (digB s.num.natAbs) (denB s.den)
theorem mkRat_one (n : Int) : mkRat n 1 = (n : Rat) := by
  rw [Rat.mkRat_eq_div]
  have : ((1 : Nat) : Rat) = 1 := rfl
  rw [this]
  grind
/-- canonical -/
def isCan (g : Bool) (n d : List UInt8) : Bool := decide (g = decide ((qval g n d).num < 0) ∧ n = digB (qval g n d).num.natAbs ∧ d = denB (qval g n d).den)
theorem isCan_iff (g : Bool) (n d : List UInt8) : isCan g n d = true ↔ qV g n d = mkQ (qval g n d) := by
  unfold isCan mkQ
  rw [qV_inj, decide_eq_true_eq]
theorem isCan_mk (q : Rat) : isCan (decide (q.num < 0)) (digB q.num.natAbs) (denB q.den) = true := by
  rw [isCan_iff, qval_mk]; rfl
theorem bs_beq (n n' : List UInt8) : (bs n == bs n') = decide (n = n') := by
  have e : (bs n == bs n') = (n.toArray == n'.toArray) := rfl
  rw [e]
  by_cases h : n = n'
  · simp [h]
  · simp [h]
end Go.Fw
set_option linter.unusedSimpArgs false
set_option linter.unusedVariables false
namespace Go.Fw
open Go

def cmpQ (a b : Rat) : Int := if a < b then -1 else if b < a then 1 else 0
theorem natCast_pos {d : Nat} (hd : 0 < d) : (0 : Rat) < (d : Rat) := by
  have := (Rat.natCast_lt_natCast (a := 0) (b := d)).2 hd
  simpa using this
theorem mkRat_lt {n m : Int} {d e : Nat} (hd : 0 < d) (he : 0 < e) : mkRat n d < mkRat m e ↔ n * (e : Int) < m * (d : Int) := by
  have h1 := natCast_pos hd
  have h2 := natCast_pos he
  rw [Rat.mkRat_eq_div, Rat.mkRat_eq_div, Rat.div_lt_iff h1]
  have e1 : (m : Rat) / (e : Rat) * (d : Rat) = ((m : Rat) * (d : Rat)) / (e : Rat) := by grind
  rw [e1, Rat.lt_div_iff h2, ← Rat.intCast_lt_intCast]
  simp only [Rat.intCast_mul, Rat.intCast_natCast]
theorem mkRat_cmp {n m : Int} {d e : Nat} (hd : 0 < d) (he : 0 < e) : cmpQ (mkRat n d) (mkRat m e) = sgn (n * (e : Int) - m * (d : Int)) := by
  unfold cmpQ sgn
  simp only [mkRat_lt hd he, mkRat_lt he hd]
  generalize n * (e : Int) = x
  generalize m * (d : Int) = y
  by_cases h1 : x < y
  · have : x - y < 0 := by omega
    simp only [h1, this, if_true]
  · have : ¬ x - y < 0 := by omega
    simp only [h1, this, if_false]
    by_cases h2 : y < x
    · have : 0 < x - y := by omega
      simp only [h2, this, if_true]
    · have : ¬ 0 < x - y := by omega
      simp only [h2, this, if_false]
theorem mkRat_floor (n : Int) {d : Nat} (hd : 0 < d) : (mkRat n d).floor = n / (d : Int) := by
  rw [Rat.floor_def, mkRat_num' n hd, mkRat_den' n hd]
  have hg : 0 < Nat.gcd n.natAbs d := Nat.gcd_pos_of_pos_right _ hd
  have h1 : ((Nat.gcd n.natAbs d : Nat) : Int) ∣ n := Int.ofNat_dvd_left.2 (Nat.gcd_dvd_left _ _)
  obtain ⟨a, ha⟩ := h1
  obtain ⟨b, hb⟩ := Nat.gcd_dvd_right n.natAbs d
  generalize Nat.gcd n.natAbs d = g at *
  subst ha hb
  rw [Int.mul_ediv_cancel_left _ (by omega), Nat.mul_div_cancel_left _ hg]
  rw [Int.natCast_mul, Int.mul_ediv_mul_of_pos _ _ (by omega)]
theorem quo_pos {n m : Int} {d e : Nat} (hd : 0 < d) (he : 0 < e) (hm : 0 < m) : mkRat n d / mkRat m e = mkRat (n * e) (d * m.natAbs) := by
  obtain ⟨k, rfl⟩ : ∃ k : Nat, m = k := ⟨m.natAbs, by omega⟩
  rw [Rat.mkRat_eq_div, Rat.mkRat_eq_div, Rat.mkRat_eq_div]
  have h1 := natCast_pos hd
  have h2 := natCast_pos he
  have h3 := natCast_pos (show 0 < k by omega)
  simp only [Rat.intCast_mul, Rat.natCast_mul, Int.natAbs_natCast, Rat.intCast_natCast]
  grind
theorem quo_neg {n m : Int} {d e : Nat} (hd : 0 < d) (he : 0 < e) (hm : m < 0) : mkRat n d / mkRat m e = mkRat (-(n * e)) (d * m.natAbs) := by
  obtain ⟨k, rfl⟩ : ∃ k : Nat, m = -(k : Int) := ⟨m.natAbs, by omega⟩
  rw [Rat.mkRat_eq_div, Rat.mkRat_eq_div, Rat.mkRat_eq_div]
  have h1 := natCast_pos hd
  have h2 := natCast_pos he
  have h3 := natCast_pos (show 0 < k by omega)
  simp only [Rat.intCast_mul, Rat.natCast_mul, Int.natAbs_natCast, Rat.intCast_natCast, Int.natAbs_neg, Rat.intCast_neg]
  grind
theorem mkRat_ne {n : Int} {d : Nat} (hd : 0 < d) : mkRat n d = 0 ↔ n = 0 := Rat.mkRat_eq_zero (by omega)

/-! ### angles: (c, s) on the unit circle -/
structure Rot where
  c : Rat
  s : Rat
deriving DecidableEq
def Rot.ok (r : Rot) : Prop := r.c * r.c + r.s * r.s = 1
instance (r : Rot) : Decidable r.ok := inferInstanceAs (Decidable (_ = _))
/-- 0 for angles below a half turn, 1 for others -/
def Rot.half (r : Rot) : Int := if 0 < r.s then 0 else if r.s < 0 then 1 else if r.c < 0 then 1 else 0
def Rot.thn (a b : Rot) : Rot := ⟨a.c * b.c - a.s * b.s, a.s * b.c + a.c * b.s⟩
def Rot.back (a : Rot) : Rot := ⟨a.c, -a.s⟩
def Rot.cmp (a b : Rot) : Int := if a.half - b.half ≠ 0 then a.half - b.half else cmpQ (Rot.thn b.back a).s 0
def Rot.lt (a b : Rot) : Prop := a.cmp b < 0
theorem Rot.thn_ok {a b : Rot} (ha : a.ok) (hb : b.ok) : (a.thn b).ok := by
  unfold Rot.ok Rot.thn at *
  grind
theorem Rot.back_ok {a : Rot} (ha : a.ok) : a.back.ok := by unfold Rot.ok Rot.back at *; grind
theorem Rot.ext' {a b : Rot} (h1 : a.c = b.c) (h2 : a.s = b.s) : a = b := by cases a; cases b; simp_all
theorem Rot.half_cases (r : Rot) : (r.half = 0 ∧ (0 < r.s ∨ (r.s = 0 ∧ 0 ≤ r.c))) ∨ (r.half = 1 ∧ (r.s < 0 ∨ (r.s = 0 ∧ r.c < 0))) := by
  unfold Rot.half
  split
  · exact .inl ⟨rfl, .inl ‹_›⟩
  · split
    · exact .inr ⟨rfl, .inl ‹_›⟩
    · have : r.s = 0 := by grind
      split
      · exact .inr ⟨rfl, .inr ⟨this, ‹_›⟩⟩
      · exact .inl ⟨rfl, .inr ⟨this, by grind⟩⟩
theorem cmpQ_zero_neg {x : Rat} : cmpQ x 0 < 0 ↔ x < 0 := by
  unfold cmpQ
  by_cases h1 : x < 0
  · rw [if_pos h1]; grind
  · rw [if_neg h1]
    by_cases h2 : 0 < x
    · rw [if_pos h2]; grind
    · rw [if_neg h2]; grind
theorem cmpQ_zero_pos {x : Rat} : 0 < cmpQ x 0 ↔ 0 < x := by
  unfold cmpQ
  by_cases h1 : x < 0
  · rw [if_pos h1]; grind
  · rw [if_neg h1]
    by_cases h2 : 0 < x
    · rw [if_pos h2]; grind
    · rw [if_neg h2]; grind
theorem cmpQ_zero_eq {x : Rat} : cmpQ x 0 = 0 ↔ x = 0 := by
  unfold cmpQ
  by_cases h1 : x < 0
  · rw [if_pos h1]; grind
  · rw [if_neg h1]
    by_cases h2 : 0 < x
    · rw [if_pos h2]; grind
    · rw [if_neg h2]; grind
end Go.Fw
set_option linter.unusedSimpArgs false
set_option linter.unusedVariables false
namespace Go.Fw
open Go

def Rot.cross (a b : Rot) : Rat := a.c * b.s - a.s * b.c
theorem Rot.cmp_cross (a b : Rot) : (Rot.thn b.back a).s = -(a.cross b) := by unfold Rot.thn Rot.back Rot.cross; grind
theorem Rot.cross_anti (a b : Rot) : a.cross b = -(b.cross a) := by unfold Rot.cross; grind
theorem Rot.cross_zero {a b : Rot} (ha : a.ok) (hb : b.ok) (h : a.cross b = 0) (hh : a.half = b.half) : a = b := by
  have hd : (a.c * b.c + a.s * b.s) * (a.c * b.c + a.s * b.s) = 1 := by unfold Rot.ok Rot.cross at *; grind
  have h1 : a.c = (a.c * b.c + a.s * b.s) * b.c := by unfold Rot.ok Rot.cross at *; grind
  have h2 : a.s = (a.c * b.c + a.s * b.s) * b.s := by unfold Rot.ok Rot.cross at *; grind
  generalize a.c * b.c + a.s * b.s = d at *
  have hd2 : d = 1 ∨ d = -1 := by
    have : (d - 1) * (d + 1) = 0 := by grind
    rcases Rat.mul_eq_zero.1 this with h | h
    · left; grind
    · right; grind
  rcases hd2 with rfl | rfl
  · exact Rot.ext' (by grind) (by grind)
  · exfalso
    have e1 : a.c = -b.c := by grind
    have e2 : a.s = -b.s := by grind
    unfold Rot.ok at *
    rcases a.half_cases with ⟨x1, x2⟩ | ⟨x1, x2⟩ <;> rcases b.half_cases with ⟨y1, y2⟩ | ⟨y1, y2⟩
    · rcases x2 with x2 | ⟨x2, x3⟩ <;> rcases y2 with y2 | ⟨y2, y3⟩ <;> first | grind | (have : b.c = 0 := by grind); grind
    · omega
    · omega
    · rcases x2 with x2 | ⟨x2, x3⟩ <;> rcases y2 with y2 | ⟨y2, y3⟩ <;> grind
theorem Rot.half_le (r : Rot) : r.half = 0 ∨ r.half = 1 := by rcases r.half_cases with h | h <;> simp [h.1]
theorem Rot.cmp_same {a b : Rot} (h : a.half = b.half) : a.cmp b = cmpQ (-(a.cross b)) 0 := by
  unfold Rot.cmp
  rw [if_neg (by omega), Rot.cmp_cross]
theorem Rot.cmp_diff {a b : Rot} (h : a.half ≠ b.half) : a.cmp b = a.half - b.half := by
  unfold Rot.cmp
  rw [if_pos (by omega)]
theorem Rot.cmp_zero {a b : Rot} (ha : a.ok) (hb : b.ok) : a.cmp b = 0 ↔ a = b := by
  by_cases h : a.half = b.half
  · rw [Rot.cmp_same h, cmpQ_zero_eq]
    constructor
    · intro h0; exact Rot.cross_zero ha hb (by grind) h
    · rintro rfl; unfold Rot.cross; grind
  · rw [Rot.cmp_diff h]
    constructor
    · intro h0; omega
    · rintro rfl; exact absurd rfl h
theorem Rot.cmp_pos {a b : Rot} : 0 < a.cmp b ↔ b.cmp a < 0 := by
  by_cases h : a.half = b.half
  · rw [Rot.cmp_same h, Rot.cmp_same h.symm, cmpQ_zero_pos, cmpQ_zero_neg, Rot.cross_anti a b]
    constructor <;> intro h <;> grind
  · rw [Rot.cmp_diff h, Rot.cmp_diff (Ne.symm h)]; omega
theorem Rot.cross_trans {a b c : Rot} (ha : a.ok) (hb : b.ok) (hc : c.ok) (h1 : a.half = b.half) (h2 : b.half = c.half) (h3 : 0 < a.cross b) (h4 : 0 < b.cross c) : 0 < a.cross c := by
  have id : b.s * a.cross c = a.s * b.cross c + c.s * a.cross b := by unfold Rot.cross; grind
  rcases b.half_cases with ⟨y1, y2⟩ | ⟨y1, y2⟩
  · have as : 0 ≤ a.s := by rcases a.half_cases with ⟨x1, x2⟩ | ⟨x1, x2⟩ <;> first | omega | grind
    have hbs : 0 < b.s := by
      rcases y2 with y2 | ⟨y2, y3⟩
      · exact y2
      · exfalso
        have : a.cross b = -(a.s * b.c) := by unfold Rot.cross; grind
        have : 0 ≤ a.s * b.c := Rat.mul_nonneg as y3
        grind
    have cs : 0 < c.s := by
      rcases c.half_cases with ⟨x1, x2⟩ | ⟨x1, x2⟩
      · rcases x2 with x2 | ⟨x2, x3⟩
        · exact x2
        · exfalso
          have : b.cross c = -(b.s * c.c) := by unfold Rot.cross; grind
          have : 0 ≤ b.s * c.c := Rat.mul_nonneg (by grind) x3
          grind
      · omega
    have p1 : 0 ≤ a.s * b.cross c := Rat.mul_nonneg as (by grind)
    have p2 : 0 < c.s * a.cross b := Rat.mul_pos cs h3
    exact (Rat.mul_pos_iff_of_pos_left hbs).1 (by grind)
  · have as : a.s ≤ 0 := by rcases a.half_cases with ⟨x1, x2⟩ | ⟨x1, x2⟩ <;> first | omega | grind
    have hbs : b.s < 0 := by
      rcases y2 with y2 | ⟨y2, y3⟩
      · exact y2
      · exfalso
        have : a.cross b = -(-a.s * -b.c) := by unfold Rot.cross; grind
        have : 0 ≤ -a.s * -b.c := Rat.mul_nonneg (by grind) (by grind)
        grind
    have cs : c.s < 0 := by
      rcases c.half_cases with ⟨x1, x2⟩ | ⟨x1, x2⟩
      · omega
      · rcases x2 with x2 | ⟨x2, x3⟩
        · exact x2
        · exfalso
          have : b.cross c = -(-b.s * -c.c) := by unfold Rot.cross; grind
          have : 0 ≤ -b.s * -c.c := Rat.mul_nonneg (by grind) (by grind)
          grind
    have p1 : 0 ≤ -a.s * b.cross c := Rat.mul_nonneg (by grind) (by grind)
    have p2 : 0 < -c.s * a.cross b := Rat.mul_pos (by grind) h3
    exact (Rat.mul_pos_iff_of_pos_left (a := -b.s) (by grind)).1 (by grind)
theorem Rot.lt_trans {a b c : Rot} (ha : a.ok) (hb : b.ok) (hc : c.ok) (h1 : a.lt b) (h2 : b.lt c) : a.lt c := by
  unfold Rot.lt at *
  have x := a.half_le
  have y := b.half_le
  have z := c.half_le
  by_cases e1 : a.half = b.half <;> by_cases e2 : b.half = c.half
  · rw [Rot.cmp_same e1, cmpQ_zero_neg] at h1
    rw [Rot.cmp_same e2, cmpQ_zero_neg] at h2
    rw [Rot.cmp_same (e1.trans e2), cmpQ_zero_neg]
    have := Rot.cross_trans ha hb hc e1 e2 (by grind) (by grind)
    grind
  · rw [Rot.cmp_diff e2] at h2
    rw [Rot.cmp_diff (by omega)]; omega
  · rw [Rot.cmp_diff e1] at h1
    rw [Rot.cmp_diff (by omega)]; omega
  · rw [Rot.cmp_diff e1] at h1
    rw [Rot.cmp_diff e2] at h2
    omega
theorem Rot.lt_irrefl {a : Rot} (ha : a.ok) : ¬ a.lt a := by
  unfold Rot.lt
  rw [(Rot.cmp_zero ha ha).2 rfl]; omega
theorem Rot.lt_cases {a b : Rot} (ha : a.ok) (hb : b.ok) : a.lt b ∨ a = b ∨ b.lt a := by
  unfold Rot.lt
  rcases Int.lt_trichotomy (a.cmp b) 0 with h | h | h
  · exact .inl h
  · exact .inr (.inl ((Rot.cmp_zero ha hb).1 h))
  · exact .inr (.inr (Rot.cmp_pos.1 h))
end Go.Fw
set_option linter.unusedSimpArgs false
set_option linter.unusedVariables false
namespace Go.Fw
open Go

/-- the simplest fraction between two positive ones: the number counts the steps -/
def simpQ : Nat → Rat → Rat → Rat
  | 0, _, _ => 0
  | n + 1, a, b => if (a.ceil : Rat) ≤ b then (a.ceil : Rat) else
      ((a.ceil - 1 : Int) : Rat) + 1 / simpQ n (1 / (b - ((a.ceil - 1 : Int) : Rat))) (1 / (a - ((a.ceil - 1 : Int) : Rat)))

theorem num_pos' {q : Rat} : 0 < q.num ↔ 0 < q := by rw [Rat.lt_iff]; simp
theorem inv_den {q : Rat} (h : 0 < q) : (1 / q).den = q.num.natAbs ∧ (1 / q).num = q.den := by
  have hn : 0 < q.num := num_pos'.2 h
  have e : 1 / q = mkRat q.den q.num.natAbs := by
    rw [Rat.div_def, Rat.one_mul, Rat.inv_def]
    obtain ⟨m, hm⟩ : ∃ m : Nat, q.num = m := ⟨q.num.natAbs, by omega⟩
    rw [hm, Rat.divInt_ofNat]; rfl
  rw [e, mkRat_num' _ (by omega), mkRat_den' _ (by omega)]
  have hg : Nat.gcd (q.den : Int).natAbs q.num.natAbs = 1 := by
    rw [Int.natAbs_natCast, Nat.gcd_comm]; exact q.reduced
  rw [hg]
  simp
theorem sub_int_den (q : Rat) (z : Int) : (q - (z : Rat)).den = q.den ∧ (q - (z : Rat)).num = q.num - z * q.den := by
  have e : q - (z : Rat) = mkRat (q.num - z * q.den) q.den := by
    have h := natCast_pos q.den_pos
    rw [Rat.mkRat_eq_div, Rat.intCast_sub, Rat.intCast_mul, Rat.intCast_natCast]
    have : q = (q.num : Rat) / (q.den : Rat) := by rw [← Rat.mkRat_eq_div, Rat.mkRat_self]
    generalize (q.num : Rat) = n at *
    generalize (q.den : Rat) = d at *
    subst this
    grind
  have hg : Nat.gcd (q.num - z * q.den).natAbs q.den = 1 := by
    have h1 : Nat.gcd q.num.natAbs q.den = 1 := q.reduced
    have h2 : Int.gcd (q.num - z * q.den) q.den = Int.gcd q.num q.den := by
      rw [Int.gcd_comm, Int.gcd_comm q.num]
      have : q.num - z * q.den = q.num + (-z) * q.den := by grind
      rw [this, Int.gcd_add_mul_right_right]
    simpa [Int.gcd] using h2.trans h1
  rw [e, mkRat_num' _ q.den_pos, mkRat_den' _ q.den_pos, hg]
  simp
theorem ceil_bounds (a : Rat) : ((a.ceil - 1 : Int) : Rat) < a ∧ a ≤ (a.ceil : Rat) := ⟨Rat.lt_ceil_iff.1 (by omega), Rat.ceil_le_iff.1 (by omega)⟩
theorem num_natAbs {q : Rat} (h : 0 < q) : (q.num.natAbs : Int) = q.num := by have := num_pos'.2 h; omega

/-- one step towards the simplest fraction -/
structure Simp (a b : Rat) (l : Int) : Prop where
  pos : 0 < 1 / (b - (l : Rat))
  le : 1 / (b - (l : Rat)) ≤ 1 / (a - (l : Rat))
  da : (1 / (a - (l : Rat))).den < a.den
  db : (1 / (b - (l : Rat))).den < b.den
  na : (1 / (a - (l : Rat))).num = a.den
  nb : (1 / (b - (l : Rat))).num = b.den
  va : (((1 / (a - (l : Rat))).den : Nat) : Int) = a.num - l * a.den
  vb : (((1 / (b - (l : Rat))).den : Nat) : Int) = b.num - l * b.den
theorem Simp.of {a b : Rat} (ha : 0 < a) (hab : a ≤ b) (h : ¬ (a.ceil : Rat) ≤ b) : Simp a b (a.ceil - 1) := by
  obtain ⟨h1, h2⟩ := ceil_bounds a
  generalize hl : a.ceil - 1 = l at *
  have hc : (a.ceil : Rat) = (l : Rat) + 1 := by
    rw [show a.ceil = l + 1 by omega, Rat.intCast_add]; rfl
  rw [hc] at h h2
  have p1 : 0 < a - (l : Rat) := by grind
  have p2 : 0 < b - (l : Rat) := by grind
  have s1 : a - (l : Rat) < 1 := by grind
  have s2 : b - (l : Rat) < 1 := by grind
  have ⟨i1, i2⟩ := inv_den p1
  have ⟨j1, j2⟩ := inv_den p2
  have ⟨d1, n1⟩ := sub_int_den a l
  have ⟨d2, n2⟩ := sub_int_den b l
  have q1 := num_pos'.2 p1
  have q2 := num_pos'.2 p2
  have r1 : (a - (l : Rat)).num < (a - (l : Rat)).den := by
    have := (Rat.lt_iff _ _).1 s1
    simpa using this
  have r2 : (b - (l : Rat)).num < (b - (l : Rat)).den := by
    have := (Rat.lt_iff _ _).1 s2
    simpa using this
  have ip : ∀ x : Rat, 0 < x → 0 < 1 / x := fun x hx => by
    rw [Rat.lt_div_iff hx]; grind
  refine ⟨ip _ p2, ?_, ?_, ?_, ?_, ?_, ?_, ?_⟩
  · have := ip _ p1
    have := ip _ p2
    refine Rat.not_lt.1 fun hlt => ?_
    rw [Rat.div_lt_iff p1] at hlt
    have e : 1 / (b - (l : Rat)) * (b - (l : Rat)) = 1 := by grind
    have : 1 / (b - (l : Rat)) * (a - (l : Rat)) ≤ 1 / (b - (l : Rat)) * (b - (l : Rat)) := Rat.mul_le_mul_of_nonneg_left (by grind) (by grind)
    grind
  all_goals omega
theorem ceil_num {a : Rat} (ha : 0 < a) : 0 < a.ceil ∧ a.ceil ≤ a.num := by
  have hn := num_pos'.2 ha
  have hd := a.den_pos
  constructor
  · exact Rat.lt_ceil_iff.2 (by simpa using ha)
  · rw [Rat.ceil_le_iff, Rat.le_iff]
    simp
    have : a.num * 1 ≤ a.num * a.den := Int.mul_le_mul_of_nonneg_left (by omega) (by omega)
    simpa using this
theorem int_le_num {b : Rat} {z : Int} (hb : 0 < b) (h : (z : Rat) ≤ b) : z ≤ b.num := by
  have hn := num_pos'.2 hb
  have hd := b.den_pos
  rw [Rat.le_iff] at h
  simp at h
  rcases Int.lt_or_le 0 z with h0 | h0
  · have : z * 1 ≤ z * b.den := Int.mul_le_mul_of_nonneg_left (by omega) (by omega)
    omega
  · omega
theorem simpQ_small : ∀ (n : Nat) (a b : Rat), 0 < a → a ≤ b → a.den + b.den ≤ n → 0 < simpQ n a b ∧ (simpQ n a b).num ≤ a.num ∧ (simpQ n a b).num ≤ b.num ∧ (simpQ n a b).den ≤ a.den ∧ (simpQ n a b).den ≤ b.den := by
  intro n
  induction n with
  | zero => intro a b ha hab hn; have := a.den_pos; omega
  | succ n ih =>
    intro a b ha hab hn
    have hb : 0 < b := by grind
    unfold simpQ
    obtain ⟨c1, c2⟩ := ceil_num ha
    split
    · rename_i h
      have c3 := int_le_num hb h
      have := a.den_pos
      have := b.den_pos
      refine ⟨by simpa using Rat.intCast_lt_intCast.2 c1, ?_, ?_, ?_, ?_⟩ <;> simp <;> omega
    · rename_i h
      have hs := Simp.of ha hab h
      obtain ⟨k0, k1, k2, k3, k4⟩ := ih _ _ hs.pos hs.le (by have := hs.da; have := hs.db; omega)
      generalize simpQ n (1 / (b - ((a.ceil - 1 : Int) : Rat))) (1 / (a - ((a.ceil - 1 : Int) : Rat))) = r at *
      have hl0 : 0 ≤ a.ceil - 1 := by omega
      generalize hll : a.ceil - 1 = l at *
      have hr := num_pos'.2 k0
      have e : (l : Rat) + 1 / r = mkRat (l * r.num.natAbs + r.den) r.num.natAbs := by
        have h1 := natCast_pos (show 0 < r.num.natAbs by omega)
        rw [Rat.mkRat_eq_div, Rat.intCast_add, Rat.intCast_mul, Rat.intCast_natCast, Rat.intCast_natCast]
        have e1 : r = ((r.num.natAbs : Nat) : Rat) / (r.den : Rat) := by
          conv => lhs; rw [← Rat.mkRat_self r, Rat.mkRat_eq_div]
          rw [← Rat.intCast_natCast r.num.natAbs, show ((r.num.natAbs : Nat) : Int) = r.num by omega]
        have h2 := natCast_pos r.den_pos
        conv => lhs; rw [e1]
        grind
      have hge : 0 < (l : Rat) + 1 / r := by
        have : 0 < 1 / r := by rw [Rat.lt_div_iff k0]; grind
        have : (0 : Rat) ≤ (l : Rat) := by simpa using Rat.intCast_le_intCast.2 hl0
        grind
      obtain ⟨m1, m2⟩ := mkRat_le (l * r.num.natAbs + r.den) (show 0 < r.num.natAbs by omega)
      rw [← e] at m1 m2
      have hp := num_pos'.2 hge
      have na := hs.na
      have nb := hs.nb
      have va := hs.va
      have vb := hs.vb
      have x1 : l * r.num ≤ l * a.den := Int.mul_le_mul_of_nonneg_left (by omega) hl0
      have x2 : l * r.num ≤ l * b.den := Int.mul_le_mul_of_nonneg_left (by omega) hl0
      have x3 : ((r.num.natAbs : Nat) : Int) = r.num := by omega
      rw [x3] at m1
      have x4 : 0 ≤ l * r.num := Int.mul_nonneg hl0 (by omega)
      refine ⟨hge, ?_, ?_, ?_, ?_⟩ <;> omega
theorem cmpQ_pos {a b : Rat} : 0 < cmpQ a b ↔ b < a := by
  unfold cmpQ
  by_cases h1 : a < b
  · rw [if_pos h1]; grind
  · rw [if_neg h1]
    by_cases h2 : b < a
    · rw [if_pos h2]; grind
    · rw [if_neg h2]; grind
theorem cmpQ_le {a b : Rat} : cmpQ a b ≤ 0 ↔ a ≤ b := by
  unfold cmpQ
  by_cases h1 : a < b
  · rw [if_pos h1]; grind
  · rw [if_neg h1]
    by_cases h2 : b < a
    · rw [if_pos h2]; grind
    · rw [if_neg h2]; grind
theorem cmpQ_lt {a b : Rat} : cmpQ a b < 0 ↔ a < b := by
  unfold cmpQ
  by_cases h1 : a < b
  · rw [if_pos h1]; grind
  · rw [if_neg h1]
    by_cases h2 : b < a
    · rw [if_pos h2]; grind
    · rw [if_neg h2]; grind
theorem cmpQ_ge {a b : Rat} : 0 ≤ cmpQ a b ↔ b ≤ a := by
  unfold cmpQ
  by_cases h1 : a < b
  · rw [if_pos h1]; grind
  · rw [if_neg h1]
    by_cases h2 : b < a
    · rw [if_pos h2]; grind
    · rw [if_neg h2]; grind
/-- the simplest fraction between two -/
def smpQ (a b : Rat) : Rat := if a ≤ 0 ∧ 0 ≤ b then 0 else if b < 0 then -(simpQ (a.den + b.den) (-b) (-a)) else simpQ (a.den + b.den) a b
theorem Sz.int {z : Int} {k : Nat} (h : z.natAbs < 2 ^ k) (hk : 0 < k) : Sz (z : Rat) k := by
  refine ⟨by simpa using h, ?_⟩
  have : 2 ^ 1 ≤ 2 ^ k := Nat.pow_le_pow_right (by decide) hk
  simp; omega
theorem Sz.simp {n k : Nat} {a b : Rat} (ha : 0 < a) (hab : a ≤ b) (hn : a.den + b.den ≤ n) (hs : Sz a k) : Sz (simpQ n a b) k := by
  obtain ⟨h1, h2, h3, h4, h5⟩ := simpQ_small n a b ha hab hn
  have h6 := hs.num
  have h7 := hs.den
  have h8 := num_pos'.2 h1
  exact ⟨by omega, by omega⟩
theorem Sz.smp {k : Nat} {a b : Rat} (hab : a ≤ b) (hs : Sz a k) (ht : Sz b k) (hk : 0 < k) : Sz (smpQ a b) k := by
  unfold smpQ
  split
  · exact Sz.int (z := 0) (by simp; exact Nat.pow_pos (by decide)) hk
  · split
    · exact (Sz.simp (by grind) (by grind) (by rw [Rat.neg_den, Rat.neg_den]; omega) ht.neg).neg
    · exact Sz.simp (by grind) hab (Nat.le_refl _) hs
/-- the parts of one step -/
theorem Simp.sz {a b : Rat} {l : Int} {k : Nat} (h : Simp a b l) (ha : Sz a k) (hb : Sz b k) : Sz (1 / (a - (l : Rat))) k ∧ Sz (1 / (b - (l : Rat))) k := by
  have h1 := h.da
  have h2 := h.db
  have h3 := h.na
  have h4 := h.nb
  have h5 := ha.den
  have h6 := hb.den
  exact ⟨⟨by omega, by omega⟩, ⟨by omega, by omega⟩⟩
theorem Sz.subI {q : Rat} {z : Int} {k : Nat} (hq : Sz q k) (h1 : 0 < q - (z : Rat)) (h2 : q - (z : Rat) < 1) : Sz (q - (z : Rat)) k := by
  obtain ⟨e1, e2⟩ := sub_int_den q z
  have h3 := (Rat.lt_iff _ _).1 h2
  have h4 := num_pos'.2 h1
  have h5 := hq.den
  simp at h3
  exact ⟨by omega, by omega⟩
theorem Sz.inv1 {q : Rat} {k : Nat} (hq : Sz q k) (h : 0 < q) : Sz (1 / q) k := by
  obtain ⟨e1, e2⟩ := inv_den h
  have h3 := hq.num
  have h4 := hq.den
  exact ⟨by omega, by omega⟩
end Go.Fw
set_option linter.unusedSimpArgs false
set_option linter.unusedVariables false
namespace Go.Fw
open Go

section
variable {tt : TT} {S : ACall} {Q : APost} {s : Slots} {H : Heap}
/-- what lies behind a loop -/
theorem ax_midl (M : Slots → Heap → Prop) {b : Code} {id : Nat} {K : Slots → Heap → Prop} (h1 : Ax tt S (.loop b) (AEx.inBlock id (AEx.thn M Q)) s H) (h2 : ∀ s H, M s H → K s H) : Ax tt S (.loop b) (AEx.inBlock id (AEx.thn K Q)) s H := by
  refine Ax_mono (.loop b) h1 ?_
  intro e s H h
  cases e with
  | normal => exact h2 s H h
  | exit i =>
    by_cases hi : i = id
    · subst hi
      simp only [inb_exit, if_true] at h ⊢
      exact h2 s H h
    · simp only [inb_exit, hi, if_false] at h ⊢
      exact h
  | ret => exact h
end

section
variable {tt : TT} {S : ACall} {q : Bool} {ops : Array Oper} {K : Slots → Heap → Prop} {l : List Oper} {s : Slots} {H : Heap} {dst : Option Tmp} {ty : TypeId} {pos : String} {af : Array Edge}
/-- a call that leaves new blocks behind -/
theorem wl_callX {args : Array Operand} {tys : Array TypeId} {g : FuncId} {R : Value → Heap → Prop} (as : Array Value) (ha : args.map (ev s) = as) (hS : ∃ v H', S (.func g) as H v H' ∧ Ext H H' ∧ R v H')
    (k : ∀ v G, R v (H ++ G) → AxL tt S q ops K l (s.put dst v) (H ++ G)) : AxL tt S q ops K (⟨dst, .call { callee := .value (.func g), args := args, argTypes := tys }, ty, pos, af, none⟩ :: l) s H := by
  obtain ⟨v, _, h1, ⟨G, rfl⟩, h2⟩ := hS
  exact wl_callF as ha h1 (fun _ => ⟨G, rfl⟩) (k v G h2)
/-- the callee is a value -/
theorem wl_callO {f : Operand} {args : Array Operand} {tys : Array TypeId} {v : Value} (g : FuncId) (hf : ev s f = .func (.func g) #[] #[]) (as : Array Value) (ha : args.map (ev s) = as) (hS : S (.func g) as H v H)
    (k : AxL tt S q ops K l (s.put dst v) H) : AxL tt S q ops K (⟨dst, .call { callee := .value f, args := args, argTypes := tys }, ty, pos, af, none⟩ :: l) s H :=
  wl_call (first := #[]) (cap := #[]) hf (by rw [ha]; simpa using hS) (fun _ => ⟨[], by simp⟩) k
/-- the same, the heap as a variable -/
theorem wl_callT {args : Array Operand} {tys : Array TypeId} {g : FuncId} {R : Value → Heap → Prop} (as : Array Value) (ha : args.map (ev s) = as) (hS : ∃ v H', S (.func g) as H v H' ∧ Ext H H' ∧ R v H')
    (k : ∀ v T, Ext H T → R v T → AxL tt S q ops K l (s.put dst v) T) : AxL tt S q ops K (⟨dst, .call { callee := .value (.func g), args := args, argTypes := tys }, ty, pos, af, none⟩ :: l) s H := by
  obtain ⟨v, T, h1, he, h2⟩ := hS
  exact wl_callF as ha h1 (fun _ => he) (k v T he h2)
/-- a call that leaves nothing behind -/
theorem wl_callV {args : Array Operand} {tys : Array TypeId} {g : FuncId} {v : Value} (as : Array Value) (ha : args.map (ev s) = as) (hS : S (.func g) as H v H)
    (k : AxL tt S q ops K l (s.put dst v) H) : AxL tt S q ops K (⟨dst, .call { callee := .value (.func g), args := args, argTypes := tys }, ty, pos, af, none⟩ :: l) s H :=
  wl_callF as ha hS (fun _ => ⟨[], by simp⟩) k
end
theorem flat_ex {P : Program} {f : FuncId} {args : Array Value} {H : Heap} {v : Value} (hf : flat v = true) (h : ∃ w H', Sim P f args H w H' ∧ Ext H H' ∧ w = v) : Sim P f args H v H := by
  obtain ⟨w, H', h1, ⟨G, rfl⟩, rfl⟩ := h
  exact Sim.flat h1 (Calm.refl H) hf

section
variable {tt : TT} {S : ACall} {Q : APost} {s : Slots} {H : Heap}
/-- conditions that are decided -/
def AxC (tt : TT) (S : ACall) (x y : Code) (Q : APost) (s : Slots) (H : Heap) (v : Value) : Prop := ∃ b, v = .bool b ∧ if b = true then Ax tt S x Q s H else Ax tt S y Q s H
theorem wa_cond {c : Operand} {x y : Code} : Ax tt S (.cond c x y) Q s H = AxC tt S x y Q s H (ev s c) := rfl
theorem axC_t {x y : Code} : AxC tt S x y Q s H (.bool true) = Ax tt S x Q s H := by
  apply propext
  constructor
  · rintro ⟨b, hb, h⟩
    injection hb with hb
    subst hb
    simpa using h
  · intro h; exact ⟨true, rfl, by simpa using h⟩
theorem axC_f {x y : Code} : AxC tt S x y Q s H (.bool false) = Ax tt S y Q s H := by
  apply propext
  constructor
  · rintro ⟨b, hb, h⟩
    injection hb with hb
    subst hb
    simpa using h
  · intro h; exact ⟨false, rfl, by simpa using h⟩
end
theorem LimAt.set {H : Heap} {b i c : Nat} {l : List Nat} (h : LimAt H b i c l) {b' : Nat} (hb : b ≠ b') (B : Blk) : LimAt (H.set b' B) b i c l := by
  obtain ⟨X, h1, h2⟩ := h.blk
  exact ⟨h.cap, ⟨X, by rw [List.getElem?_set_ne (Ne.symm hb)]; exact h1, h2⟩, h.len⟩
theorem Row.self {T : Heap} {b : Nat} {u : List Nat} (h : Row T b u) : T.set b ⟨u32s u, 1, true⟩ = T := by
  have hl := h.lt
  unfold Row at h
  rw [List.getElem?_eq_some_iff] at h
  obtain ⟨_, h⟩ := h
  rw [← h, List.set_getElem_self]
theorem Row.rdS {T : Heap} {b : Nat} {u o : List Nat} (h : Row T b u) {j : Nat} (hj : j < o.length) : Fw.rd (T.set b ⟨u32s o, 1, true⟩) b j 1 = some [.int .u32 (o[j] : Nat)] :=
  (h.set (o' := o)).rd hj
theorem Row.wrS {T : Heap} {b : Nat} {u o : List Nat} (h : Row T b u) {j x : Nat} (hj : j < o.length) : Fw.wr (T.set b ⟨u32s o, 1, true⟩) b j [.int .u32 (x : Nat)] = some (T.set b ⟨u32s (o.set j x), 1, true⟩) := by
  have := (h.set (o' := o)).wr (x := x) hj
  rw [List.set_set] at this
  exact this
theorem LimAt.lt {H : Heap} {b i c : Nat} {l : List Nat} (h : LimAt H b i c l) : b < H.length := by
  obtain ⟨X, h1, _⟩ := h.blk
  rcases List.getElem?_eq_some_iff.1 h1 with ⟨h, _⟩; exact h
theorem app_lim {H L : Heap} {j c : Nat} {l : List Nat} (h : L[j]? = some ⟨u32s l, 1, true⟩) (hc : c = 0 ∨ l.length ≤ c) (hl : l.length ≤ 1099511627776) : Lim (H ++ L) (.slice (some ⟨H.length + j, 0, none⟩) l.length c) l := by
  refine .inr ⟨_, _, _, rfl, hc, ⟨⟨u32s l, 1, true⟩, ?_, rfl, ?_, ?_⟩, hl⟩
  · rw [List.getElem?_append_right (by omega), show H.length + j - H.length = j by omega]; exact h
  · simp [u32s_length]
  · simp [← u32s_length]
theorem valB_take_succ {m : List UInt8} {i : Nat} (h : i < m.length) : valB (m.take (i + 1)) = valB (m.take i) * 256 + m[i].toNat := by
  rw [List.take_add_one, List.getElem?_eq_getElem h, Option.toList_some, valB_snoc]
theorem valB_take_lt (m : List UInt8) (i : Nat) : valB (m.take i) < 256 ^ i := by
  refine Nat.lt_of_lt_of_le (valB_lt _) (Nat.pow_le_pow_right (by decide) (by simp; omega))
/-- a block without limbs may change -/
def noU32 : Value → Bool | .int .u32 _ => false | _ => true
theorem Lim.swap {A L : Heap} {cs cs' : List Value} {o : Bool} {v : Value} {l : List Nat} (h : Lim (A ++ (⟨cs, 1, o⟩ :: L)) v l) (hl : cs'.length = cs.length) (hno : cs.all noU32 = true) : Lim (A ++ (⟨cs', 1, o⟩ :: L)) v l := by
  rcases h with h | ⟨b, i, c, rfl, hcap, ⟨B, hB, he, hi, hc⟩, hlen⟩
  · exact .inl h
  refine .inr ⟨b, i, c, rfl, hcap, ?_, hlen⟩
  by_cases hb : b = A.length
  · subst hb
    simp at hB
    subst hB
    refine ⟨⟨cs', 1, o⟩, by simp, rfl, by simp only [hl]; exact hi, ?_⟩
    cases l with
    | nil => simp [u32s]
    | cons x l =>
      exfalso
      have h1 : (Value.int .u32 (x : Nat)) ∈ cs := by
        have : (Value.int .u32 (x : Nat)) ∈ (cs.drop i).take (x :: l).length := by rw [hc]; simp [u32s]
        exact List.mem_of_mem_drop (List.mem_of_mem_take this)
      have := List.all_eq_true.1 hno _ h1
      simp [noU32] at this
  · refine ⟨B, ?_, he, hi, hc⟩
    rw [List.getElem?_append] at hB ⊢
    by_cases hlt : b < A.length
    · rw [if_pos hlt] at hB ⊢; exact hB
    · rw [if_neg hlt] at hB ⊢
      obtain ⟨j, hj⟩ : ∃ j, b - A.length = j + 1 := ⟨b - A.length - 1, by omega⟩
      rw [hj] at hB ⊢
      simpa using hB
/-- a row of bytes -/
theorem u8s_set (l : List UInt8) (k : Nat) (b : UInt8) : (u8s l).set k (.int .u8 (b.toNat : Nat)) = u8s (l.set k b) := by simp [u8s, List.map_set]
theorem u8_wr {l : List UInt8} {L : Heap} {k : Nat} {b : UInt8} (h : k < l.length) : wr (⟨u8s l, 1, true⟩ :: L) 0 k [.int .u8 (b.toNat : Nat)] = some (⟨u8s (l.set k b), 1, true⟩ :: L) := by
  rw [wr_eq]
  simp only [List.getElem?_cons_zero, List.set_cons_zero]
  rw [if_pos (by simp [u8s_length, allC, isCell]; omega), splice_one _ _ _ (by rw [u8s_length]; exact h), u8s_set]
theorem u8_rd {l : List UInt8} {L : Heap} {k n : Nat} (h : k + n = l.length) : rd (⟨u8s l, 1, true⟩ :: L) 0 k n = some (u8s (l.drop k)) := by
  unfold rd
  simp only [List.getElem?_cons_zero]
  rw [if_pos (by simp [u8s_length]; omega), List.take_of_length_le (by simp [u8s_length]; omega)]
  simp [u8s, List.map_drop]
theorem u8_rd1 {l : List UInt8} {L : Heap} {k : Nat} (h : k < l.length) : rd (⟨u8s l, 1, true⟩ :: L) 0 k 1 = some [.int .u8 (l[k].toNat : Nat)] := by
  unfold rd
  simp only [List.getElem?_cons_zero]
  rw [if_pos (by simp [u8s_length]; omega)]
  congr 1
  apply List.ext_getElem?
  intro j
  rw [List.getElem?_take, List.getElem?_drop]
  by_cases hj : j < 1
  · obtain rfl : j = 0 := by omega
    simp [u8s, h]
  · rw [if_neg hj]; simp; omega
theorem digB_step {n : Nat} (h : n ≠ 0) : digB n = digB (n / 256) ++ [UInt8.ofNat n] := by
  conv => lhs; unfold digB
  rw [dif_neg h]
  congr 2
  apply UInt8.toNat_inj.1
  simp
end Go.Fw
set_option linter.unusedSimpArgs false
set_option linter.unusedVariables false
namespace Go.Fw
open Go

/-- the two highest places of the divisor, and three of the dividend -/
structure KN (X V i k v1 v2 uh ul u0 : Nat) : Prop where
  v1h : 2147483648 ≤ v1
  v1l : v1 < 4294967296
  v2l : v2 < 4294967296
  uhl : uh < 4294967296
  ull : ul < 4294967296
  u0l : u0 < 4294967296
  k2 : 2 ≤ k
  xlt : X < V * 4294967296 ^ (i + 1)
  wle : (v1 * 4294967296 + v2) * 4294967296 ^ (i + k - 2) ≤ V * 4294967296 ^ i
  wlt : V * 4294967296 ^ i < (v1 * 4294967296 + v2 + 1) * 4294967296 ^ (i + k - 2)
  tle : ((uh * 4294967296 + ul) * 4294967296 + u0) * 4294967296 ^ (i + k - 2) ≤ X
  tlt : X < ((uh * 4294967296 + ul) * 4294967296 + u0 + 1) * 4294967296 ^ (i + k - 2)
theorem top_split {l : List Nat} (hs : small l) {k : Nat} (hk : 2 ≤ k) (hl : k ≤ l.length) :
    (l.getD (k - 1) 0 * 4294967296 + l.getD (k - 2) 0) * 4294967296 ^ (k - 2) ≤ valL (l.take k) ∧ valL (l.take k) < (l.getD (k - 1) 0 * 4294967296 + l.getD (k - 2) 0 + 1) * 4294967296 ^ (k - 2) := by
  have e1 := valL_take_succ (l := l) (k := k - 1) (by omega)
  have e2 := valL_take_succ (l := l) (k := k - 2) (by omega)
  have h3 := valL_lt (small_take hs (k - 2))
  rw [List.length_take, Nat.min_eq_left (by omega)] at h3
  rw [show k - 1 + 1 = k by omega] at e1
  rw [show k - 2 + 1 = k - 1 by omega] at e2
  have p : 4294967296 ^ (k - 1) = 4294967296 ^ (k - 2) * 4294967296 := by rw [← Nat.pow_succ]; congr 1; omega
  have g1 : l.getD (k - 1) 0 = l[k - 1]'(by omega) := by simp [show k - 1 < l.length by omega]
  have g2 : l.getD (k - 2) 0 = l[k - 2]'(by omega) := by simp [show k - 2 < l.length by omega]
  rw [g1, g2]
  generalize l[k - 1]'(by omega) = x at *
  generalize l[k - 2]'(by omega) = y at *
  rw [e1, e2, p]
  generalize 4294967296 ^ (k - 2) = P at *
  have : (x * 4294967296 + y) * P = P * y + P * 4294967296 * x := by grind
  have : (x * 4294967296 + y + 1) * P = P * y + P * 4294967296 * x + P := by grind
  omega
theorem top_split3 {l : List Nat} (hs : small l) {k : Nat} (hk : 3 ≤ k) (hl : k ≤ l.length) :
    ((l.getD (k - 1) 0 * 4294967296 + l.getD (k - 2) 0) * 4294967296 + l.getD (k - 3) 0) * 4294967296 ^ (k - 3) ≤ valL (l.take k) ∧ valL (l.take k) < ((l.getD (k - 1) 0 * 4294967296 + l.getD (k - 2) 0) * 4294967296 + l.getD (k - 3) 0 + 1) * 4294967296 ^ (k - 3) := by
  have e1 := valL_take_succ (l := l) (k := k - 1) (by omega)
  obtain ⟨h1, h2⟩ := top_split hs (k := k - 1) (by omega) (by omega)
  rw [show k - 1 - 1 = k - 2 by omega, show k - 1 - 2 = k - 3 by omega] at h1 h2
  rw [show k - 1 + 1 = k by omega] at e1
  have p : 4294967296 ^ (k - 1) = 4294967296 ^ (k - 3) * 4294967296 * 4294967296 := by rw [← Nat.pow_succ, ← Nat.pow_succ]; congr 1; omega
  have g1 : l.getD (k - 1) 0 = l[k - 1]'(by omega) := by simp [show k - 1 < l.length by omega]
  rw [g1]
  generalize l[k - 1]'(by omega) = x at *
  generalize l.getD (k - 2) 0 = y at *
  generalize l.getD (k - 3) 0 = z at *
  rw [e1, p]
  generalize 4294967296 ^ (k - 3) = P at *
  have : ((x * 4294967296 + y) * 4294967296 + z) * P = (y * 4294967296 + z) * P + P * 4294967296 * 4294967296 * x := by grind
  have : ((x * 4294967296 + y) * 4294967296 + z + 1) * P = (y * 4294967296 + z + 1) * P + P * 4294967296 * 4294967296 * x := by grind
  omega
theorem take_all_val {l : List Nat} (hs : small l) {k : Nat} (h : valL l < 4294967296 ^ k) : valL (l.take k) = valL l := by
  rw [valL_mod l hs k, Nat.mod_eq_of_lt h]
theorem KN.of {u m : List Nat} {X V i : Nat} (hu : small u) (hm : small m) (hX : valL u = X) (hV : valL m = V) (hk : 2 ≤ m.length) (hi : i + m.length < u.length) (h1 : 2147483648 ≤ m.getD (m.length - 1) 0) (hlt : X < V * 4294967296 ^ (i + 1)) :
    KN X V i m.length (m.getD (m.length - 1) 0) (m.getD (m.length - 2) 0) (u.getD (i + m.length) 0) (u.getD (i + m.length - 1) 0) (u.getD (i + m.length - 2) 0) := by
  obtain ⟨a1, a2⟩ := top_split hm hk (Nat.le_refl _)
  obtain ⟨b1, b2⟩ := top_split3 hu (k := i + m.length + 1) (by omega) (by omega)
  rw [List.take_length, hV] at a1 a2
  have hVl := valL_lt hm
  rw [hV] at hVl
  have hXl : X < 4294967296 ^ (i + m.length + 1) := by
    refine Nat.lt_of_lt_of_le hlt ?_
    rw [show i + m.length + 1 = m.length + (i + 1) by omega, Nat.pow_add 4294967296 m.length (i + 1)]
    exact Nat.mul_le_mul_right _ (by omega)
  rw [take_all_val hu (by rw [hX]; exact hXl), hX] at b1 b2
  rw [show i + m.length + 1 - 1 = i + m.length by omega, show i + m.length + 1 - 2 = i + m.length - 1 by omega, show i + m.length + 1 - 3 = i + m.length - 2 by omega] at b1 b2
  have p : 4294967296 ^ (i + m.length - 2) = 4294967296 ^ (m.length - 2) * 4294967296 ^ i := by rw [← Nat.pow_add]; congr 1; omega
  refine ⟨h1, small_getD hm _, small_getD hm _, small_getD hu _, small_getD hu _, small_getD hu _, hk, hlt, ?_, ?_, b1, b2⟩
  · rw [p, ← Nat.mul_assoc]; exact Nat.mul_le_mul_right _ a1
  · rw [p, ← Nat.mul_assoc]; exact Nat.mul_lt_mul_of_pos_right a2 (Nat.pow_pos (by decide))
section
variable {X V i k v1 v2 uh ul u0 : Nat} (h : KN X V i k v1 v2 uh ul u0)
include h
theorem KN.qlt : X / (V * 4294967296 ^ i) < 4294967296 := by
  have := h.xlt
  rw [Nat.pow_succ, ← Nat.mul_assoc, Nat.mul_comm _ 4294967296] at this
  exact guess_lt this
theorem KN.first : X / (V * 4294967296 ^ i) ≤ (uh * 4294967296 + ul) / v1 := by
  have hv := h.v1h
  have h1 : uh * 4294967296 + ul < ((uh * 4294967296 + ul) / v1 + 1) * v1 := by
    rw [Nat.add_mul, Nat.one_mul]; exact Nat.lt_div_mul_add (by omega)
  generalize (uh * 4294967296 + ul) / v1 = g at *
  have : X < (g + 1) * (V * 4294967296 ^ i) := by
    refine knuth_hi (Nat.pow_pos (by decide)) h.wle h.tlt ?_
    have := h.u0l
    have e : (g + 1) * (v1 * 4294967296 + v2) = (g + 1) * v1 * 4294967296 + (g + 1) * v2 := by grind
    omega
  have := guess_lt this
  omega
theorem KN.over {g r : Nat} (hg : g * v1 + r = uh * 4294967296 + ul) (hc : r * 4294967296 + u0 < g * v2) : X / (V * 4294967296 ^ i) < g := by
  refine guess_lt (knuth_hi (Nat.pow_pos (by decide)) h.wle h.tlt ?_)
  have e : g * (v1 * 4294967296 + v2) = g * v1 * 4294967296 + g * v2 := by grind
  rw [e]; omega
theorem KN.under {g r : Nat} (hg : g * v1 + r = uh * 4294967296 + ul) (hl : g < 4294967296) (hc : 4294967296 ≤ r ∨ g * v2 ≤ r * 4294967296 + u0) : (g - 1) * (V * 4294967296 ^ i) ≤ X := by
  have hv := h.v1h
  have hv2 := h.v2l
  refine knuth_lo (Nat.pow_pos (by decide)) h.wlt h.tle ?_ (by omega)
  have e : g * (v1 * 4294967296 + v2) = g * v1 * 4294967296 + g * v2 := by grind
  rw [e]
  rcases hc with hc | hc
  · have : g * v2 ≤ 4294967295 * 4294967295 := Nat.mul_le_mul (by omega) (by omega)
    omega
  · omega
theorem KN.vpos : 0 < V * 4294967296 ^ i := by
  have := h.xlt
  refine Nat.pos_of_ne_zero fun h0 => ?_
  rw [Nat.pow_succ, ← Nat.mul_assoc, h0] at this
  omega
end
theorem quot_of {X V g Y : Nat} (hV : 0 < V) (h : Y + V * g = X) (hq : X / V ≤ g) : g = X / V ∧ Y = X % V := by
  have h1 : g ≤ X / V := guess_ge hV (by rw [Nat.mul_comm]; omega)
  have h2 : g = X / V := by omega
  have h3 := Nat.div_add_mod X V
  rw [← h2] at h3
  exact ⟨h2, by omega⟩
/-- one step of subtracting -/
theorem sub_step {A A' X P c b g x d d' b' W : Nat} (h : A + W = X + P * (c + b)) (hs : d' + (c + g * x) % 4294967296 + b = d + 4294967296 * b') (hA : A' + P * d = A + P * d') :
    A' + (W + P * (g * x)) = X + P * 4294967296 * ((c + g * x) / 4294967296 + b') := by
  have e := Nat.mod_add_div (c + g * x) 4294967296
  generalize (c + g * x) % 4294967296 = lo at *
  generalize (c + g * x) / 4294967296 = hi at *
  have e2 : P * (c + g * x) = P * lo + P * (4294967296 * hi) := by rw [← e, Nat.mul_add]
  have e3 := congrArg (P * ·) hs
  simp only [Nat.mul_add] at *
  have e4 : P * 4294967296 * hi = P * (4294967296 * hi) := by grind
  have e5 : P * 4294967296 * b' = P * (4294967296 * b') := by grind
  omega
theorem add_step {A A' X P s x d W : Nat} (h : A + P * s = X + W) (hA : A' + P * d = A + P * ((d + x + s) % 4294967296)) : A' + P * 4294967296 * ((d + x + s) / 4294967296) = X + (W + P * x) := by
  have e := Nat.mod_add_div (d + x + s) 4294967296
  generalize (d + x + s) % 4294967296 = lo at *
  generalize (d + x + s) / 4294967296 = hi at *
  have e2 : P * (d + x + s) = P * lo + P * (4294967296 * hi) := by rw [← e, Nat.mul_add]
  simp only [Nat.mul_add] at *
  have e4 : P * 4294967296 * hi = P * (4294967296 * hi) := by grind
  omega
/-- the guess was one too great -/
theorem back_step {A A' X P s d V g N : Nat} (hN : N = P * 4294967296) (h0 : A + P * s + V * g = X + N + V) (hA : A' + P * d = A + P * ((d + s) % 4294967296)) (hlt : A' < N) (hg : (g - 1) * V ≤ X) (hg1 : 1 ≤ g) (hds : d + s ≤ 4294967296) : A' + V * (g - 1) = X := by
  have e := Nat.mod_add_div (d + s) 4294967296
  have hh : (d + s) / 4294967296 ≤ 1 := by omega
  generalize (d + s) % 4294967296 = lo at *
  generalize (d + s) / 4294967296 = hi at *
  have e2 : P * (d + s) = P * lo + P * (4294967296 * hi) := by rw [← e, Nat.mul_add]
  rw [Nat.mul_add] at e2
  have e4 : P * (4294967296 * hi) = N * hi := by rw [hN]; grind
  have e5 : V * g = V * (g - 1) + V := by
    conv => lhs; rw [show g = (g - 1) + 1 by omega, Nat.mul_add, Nat.mul_one]
  rw [Nat.mul_comm (g - 1)] at hg
  have e6 : A' + N * hi + V * (g - 1) = X + N := by omega
  rcases Nat.eq_zero_or_pos hi with h1 | h1
  · subst h1; omega
  · have : hi = 1 := by omega
    subst this; omega
end Go.Fw
set_option linter.unusedSimpArgs false
set_option linter.unusedVariables false
namespace Go.Fw
open Go

section
variable {tt : TT} {S : ACall} {Q : APost} {s : Slots} {H H1 H2 : Heap} {id : Nat} {ops : Array Oper}
variable {d0 d1 a b c e : Nat} {ty y0 y1 y2 y3 : TypeId} {p0 p1 p2 p3 : String} {f0 f1 f2 f3 : Array Edge}
theorem aop_ld {s : Slots} {o : Oper} {d x : Nat} {v : Value} {H : Heap} (ho : o = ⟨some d, .load ty (.tmp x), y0, p0, f0, none⟩) (h : aLoad tt H ty (s x) = some v) : AOp tt S false ops o s H (s.put (some d) v) H := by
  subst ho
  unfold AOp wantedA Region.wanted
  simp only [if_true]
  refine ⟨v, ?_, rfl⟩
  simp only [aop, ev, h, Option.map_some]
theorem aop_st {s : Slots} {o : Oper} {x w : Nat} {v : Value} {H H1 : Heap} (ho : o = ⟨none, .store ty (.tmp x) (.tmp w), y0, p0, f0, none⟩) (hw : s w = v) (h : aStore tt H ty (s x) v = some H1) : AOp tt S false ops o s H s H1 := by
  subst ho
  unfold AOp wantedA Region.wanted
  simp only [if_true]
  refine ⟨undef, ?_, rfl⟩
  simp only [aop, ev, hw, h, Option.map_some]
theorem slot_other {s : Slots} {d x : Nat} {v : Value} (h : x ≠ d) : s.put (some d) v x = s x := by simp [Slots.put, h]
theorem slot_same {s : Slots} {d : Nat} {v : Value} : s.put (some d) v d = v := by simp [Slots.put]
theorem slot_comm {s : Slots} {d d' : Nat} {v v' : Value} (h : d ≠ d') : (s.put (some d) v).put (some d') v' = (s.put (some d') v').put (some d) v := by
  funext x
  simp only [Slots.put]
  by_cases h1 : x = d'
  · by_cases h2 : x = d
    · omega
    · simp [h1, show ¬ d' = d by omega]
  · simp [h1]
/-- what the text's order leaves -/
theorem ax_cross {n : Nat} (o0 o1 o2 o3 : Oper) (h0 : ops[0]? = some o0) (h1 : ops[1]? = some o1) (h2 : ops[2]? = some o2) (h3 : ops[3]? = some o3)
    (e0 : o0 = ⟨some d0, .load ty (.tmp a), y0, p0, f0, none⟩) (e1 : o1 = ⟨some d1, .load ty (.tmp b), y1, p1, f1, none⟩)
    (e2 : o2 = ⟨none, .store ty (.tmp c) (.tmp d0), y2, p2, f2, none⟩) (e3 : o3 = ⟨none, .store ty (.tmp e) (.tmp d1), y3, p3, f3, none⟩)
    (L : Nat → Nat → Nat → Nat → Array Bool)
    (hL : ops.size = n + 4 ∧ Array.replicate ops.size false = L 0 0 0 0 ∧ (L 0 0 0 0).setIfInBounds 0 true = L 1 0 0 0 ∧ (L 0 0 0 0).setIfInBounds 1 true = L 0 1 0 0 ∧ (L 1 0 0 0).setIfInBounds 1 true = L 1 1 0 0 ∧ (L 1 0 0 0).setIfInBounds 2 true = L 1 0 1 0 ∧
      (L 0 1 0 0).setIfInBounds 0 true = L 1 1 0 0 ∧ (L 1 1 0 0).setIfInBounds 2 true = L 1 1 1 0 ∧ (L 1 0 1 0).setIfInBounds 1 true = L 1 1 1 0 ∧ (L 1 1 1 0).setIfInBounds 3 true = L 1 1 1 1)
    (hr : Region.ready .any ops (L 0 0 0 0) = [0, 1] ∧ Region.ready .any ops (L 1 0 0 0) = [1, 2] ∧ Region.ready .any ops (L 0 1 0 0) = [0] ∧ Region.ready .any ops (L 1 1 0 0) = [2] ∧ Region.ready .any ops (L 1 0 1 0) = [1] ∧ Region.ready .any ops (L 1 1 1 0) = [3])
    {v0 v1 : Value} (hne : d0 ≠ d1 ∧ b ≠ d0 ∧ a ≠ d1 ∧ c ≠ d0 ∧ c ≠ d1 ∧ e ≠ d0 ∧ e ≠ d1)
    (ha : aLoad tt H ty (s a) = some v0) (hb : aLoad tt H ty (s b) = some v1) (hc : aStore tt H ty (s c) v0 = some H1) (hb1 : aLoad tt H1 ty (s b) = some v1) (he : aStore tt H1 ty (s e) v1 = some H2)
    (k : ∃ s' H', AxAny tt S ops (fun s1 H1 => s1 = s' ∧ H1 = H') n (L 1 1 1 1) ((s.put (some d0) v0).put (some d1) v1) H2 ∧ Q .normal s' H') : Ax tt S (.region id ops true) Q s H := by
  obtain ⟨s', H', k, hQ⟩ := k
  obtain ⟨n1, n2, n3, n4, n5, n6, n7⟩ := hne
  obtain ⟨m0, m1, m2, m3, m4, m5, m6, m7, m8, m9⟩ := hL
  obtain ⟨r1, r2, r3, r4, r5, r6⟩ := hr
  show AxReg tt S ops true (Q .normal) s H
  unfold AxReg
  simp only [if_true]
  refine .inr (.inr ⟨s', H', ?_, hQ⟩)
  rw [m1, m0]
  -- the last store
  have last : AxAny tt S ops (fun s1 H1 => s1 = s' ∧ H1 = H') (n + 1) (L 1 1 1 0) ((s.put (some d0) v0).put (some d1) v1) H1 := by
    unfold AxAny
    rw [r6]
    refine ⟨fun h => (by cases h), ?_⟩
    intro i hi
    obtain rfl : i = 3 := by simpa using hi
    simp only [h3]
    refine ⟨_, _, aop_st e3 slot_same (by rw [slot_other n7, slot_other n6]; exact he), ?_⟩
    rw [m9]; exact k
  have s3 : AxAny tt S ops (fun s1 H1 => s1 = s' ∧ H1 = H') (n + 2) (L 1 1 0 0) ((s.put (some d0) v0).put (some d1) v1) H := by
    unfold AxAny
    rw [r4]
    refine ⟨fun h => (by cases h), ?_⟩
    intro i hi
    obtain rfl : i = 2 := by simpa using hi
    simp only [h2]
    refine ⟨_, _, aop_st e2 (by rw [slot_other n1, slot_same]) (by rw [slot_other n5, slot_other n4]; exact hc), ?_⟩
    rw [m7]; exact last
  have s4 : AxAny tt S ops (fun s1 H1 => s1 = s' ∧ H1 = H') (n + 2) (L 1 0 1 0) (s.put (some d0) v0) H1 := by
    unfold AxAny
    rw [r5]
    refine ⟨fun h => (by cases h), ?_⟩
    intro i hi
    obtain rfl : i = 1 := by simpa using hi
    simp only [h1]
    refine ⟨_, _, aop_ld e1 (by rw [slot_other n2]; exact hb1), ?_⟩
    rw [m8]; exact last
  have s1' : AxAny tt S ops (fun s1 H1 => s1 = s' ∧ H1 = H') (n + 3) (L 1 0 0 0) (s.put (some d0) v0) H := by
    unfold AxAny
    rw [r2]
    refine ⟨fun h => (by cases h), ?_⟩
    intro i hi
    have : i = 1 ∨ i = 2 := by simpa using hi
    rcases this with rfl | rfl
    · simp only [h1]
      refine ⟨_, _, aop_ld e1 (by rw [slot_other n2]; exact hb), ?_⟩
      rw [m4]; exact s3
    · simp only [h2]
      refine ⟨_, _, aop_st e2 slot_same (by rw [slot_other n4]; exact hc), ?_⟩
      rw [m5]; exact s4
  have s2' : AxAny tt S ops (fun s1 H1 => s1 = s' ∧ H1 = H') (n + 3) (L 0 1 0 0) (s.put (some d1) v1) H := by
    unfold AxAny
    rw [r3]
    refine ⟨fun h => (by cases h), ?_⟩
    intro i hi
    obtain rfl : i = 0 := by simpa using hi
    simp only [h0]
    refine ⟨_, _, aop_ld e0 (by rw [slot_other n3]; exact ha), ?_⟩
    rw [m6, slot_comm (Ne.symm n1)]; exact s3
  unfold AxAny
  rw [r1]
  refine ⟨fun h => (by cases h), ?_⟩
  intro i hi
  have : i = 0 ∨ i = 1 := by simpa using hi
  rcases this with rfl | rfl
  · simp only [h0]
    refine ⟨_, _, aop_ld e0 ha, ?_⟩
    rw [m2]; exact s1'
  · simp only [h1]
    refine ⟨_, _, aop_ld e1 hb, ?_⟩
    rw [m3]; exact s2'
def bits5 (i j k l : Nat) : Array Bool := #[i == 1, j == 1, k == 1, l == 1, false]
def bits4 (i j k l : Nat) : Array Bool := #[i == 1, j == 1, k == 1, l == 1]
/-- four operations and an assignment -/
theorem ax_cross5 {d4 : Nat} {y4 : TypeId} {p4 : String} {f4 : Array Edge} {w : Value}
    (hr : Region.ready .any #[⟨some d0, .load ty (.tmp a), y0, p0, f0, none⟩, ⟨some d1, .load ty (.tmp b), y1, p1, f1, none⟩, ⟨none, .store ty (.tmp c) (.tmp d0), y2, p2, f2, none⟩, ⟨none, .store ty (.tmp e) (.tmp d1), y3, p3, f3, none⟩, ⟨some d4, .assign (.const w), y4, p4, f4, none⟩] (bits5 0 0 0 0) = [0, 1] ∧
      Region.ready .any #[⟨some d0, .load ty (.tmp a), y0, p0, f0, none⟩, ⟨some d1, .load ty (.tmp b), y1, p1, f1, none⟩, ⟨none, .store ty (.tmp c) (.tmp d0), y2, p2, f2, none⟩, ⟨none, .store ty (.tmp e) (.tmp d1), y3, p3, f3, none⟩, ⟨some d4, .assign (.const w), y4, p4, f4, none⟩] (bits5 1 0 0 0) = [1, 2] ∧
      Region.ready .any #[⟨some d0, .load ty (.tmp a), y0, p0, f0, none⟩, ⟨some d1, .load ty (.tmp b), y1, p1, f1, none⟩, ⟨none, .store ty (.tmp c) (.tmp d0), y2, p2, f2, none⟩, ⟨none, .store ty (.tmp e) (.tmp d1), y3, p3, f3, none⟩, ⟨some d4, .assign (.const w), y4, p4, f4, none⟩] (bits5 0 1 0 0) = [0] ∧
      Region.ready .any #[⟨some d0, .load ty (.tmp a), y0, p0, f0, none⟩, ⟨some d1, .load ty (.tmp b), y1, p1, f1, none⟩, ⟨none, .store ty (.tmp c) (.tmp d0), y2, p2, f2, none⟩, ⟨none, .store ty (.tmp e) (.tmp d1), y3, p3, f3, none⟩, ⟨some d4, .assign (.const w), y4, p4, f4, none⟩] (bits5 1 1 0 0) = [2] ∧
      Region.ready .any #[⟨some d0, .load ty (.tmp a), y0, p0, f0, none⟩, ⟨some d1, .load ty (.tmp b), y1, p1, f1, none⟩, ⟨none, .store ty (.tmp c) (.tmp d0), y2, p2, f2, none⟩, ⟨none, .store ty (.tmp e) (.tmp d1), y3, p3, f3, none⟩, ⟨some d4, .assign (.const w), y4, p4, f4, none⟩] (bits5 1 0 1 0) = [1] ∧
      Region.ready .any #[⟨some d0, .load ty (.tmp a), y0, p0, f0, none⟩, ⟨some d1, .load ty (.tmp b), y1, p1, f1, none⟩, ⟨none, .store ty (.tmp c) (.tmp d0), y2, p2, f2, none⟩, ⟨none, .store ty (.tmp e) (.tmp d1), y3, p3, f3, none⟩, ⟨some d4, .assign (.const w), y4, p4, f4, none⟩] (bits5 1 1 1 0) = [3])
    (hr5 : Region.ready .any #[⟨some d0, .load ty (.tmp a), y0, p0, f0, none⟩, ⟨some d1, .load ty (.tmp b), y1, p1, f1, none⟩, ⟨none, .store ty (.tmp c) (.tmp d0), y2, p2, f2, none⟩, ⟨none, .store ty (.tmp e) (.tmp d1), y3, p3, f3, none⟩, ⟨some d4, .assign (.const w), y4, p4, f4, none⟩] (bits5 1 1 1 1) = [4])
    (hr6 : Region.ready .any #[⟨some d0, .load ty (.tmp a), y0, p0, f0, none⟩, ⟨some d1, .load ty (.tmp b), y1, p1, f1, none⟩, ⟨none, .store ty (.tmp c) (.tmp d0), y2, p2, f2, none⟩, ⟨none, .store ty (.tmp e) (.tmp d1), y3, p3, f3, none⟩, ⟨some d4, .assign (.const w), y4, p4, f4, none⟩] #[true, true, true, true, true] = [])
    {v0 v1 : Value} (hne : d0 ≠ d1 ∧ b ≠ d0 ∧ a ≠ d1 ∧ c ≠ d0 ∧ c ≠ d1 ∧ e ≠ d0 ∧ e ≠ d1)
    (ha : aLoad tt H ty (s a) = some v0) (hb : aLoad tt H ty (s b) = some v1) (hc : aStore tt H ty (s c) v0 = some H1) (hb1 : aLoad tt H1 ty (s b) = some v1) (he : aStore tt H1 ty (s e) v1 = some H2)
    (k : Q .normal (((s.put (some d0) v0).put (some d1) v1).put (some d4) w) H2) :
    Ax tt S (.region id #[⟨some d0, .load ty (.tmp a), y0, p0, f0, none⟩, ⟨some d1, .load ty (.tmp b), y1, p1, f1, none⟩, ⟨none, .store ty (.tmp c) (.tmp d0), y2, p2, f2, none⟩, ⟨none, .store ty (.tmp e) (.tmp d1), y3, p3, f3, none⟩, ⟨some d4, .assign (.const w), y4, p4, f4, none⟩] true) Q s H := by
  refine ax_cross (n := 1) _ _ _ _ rfl rfl rfl rfl rfl rfl rfl rfl bits5 ⟨rfl, rfl, rfl, rfl, rfl, rfl, rfl, rfl, rfl, rfl⟩ hr hne ha hb hc hb1 he ⟨_, _, ?_, k⟩
  unfold AxAny
  rw [hr5]
  refine ⟨fun h => (by cases h), ?_⟩
  intro i hi
  obtain rfl : i = 4 := by simpa using hi
  refine ⟨((s.put (some d0) v0).put (some d1) v1).put (some d4) w, H2, ?_, ?_⟩
  · show AOp tt S false _ ⟨some d4, .assign (.const w), y4, p4, f4, none⟩ _ _ _ _
    unfold AOp wantedA Region.wanted
    simp only [if_true]
    exact ⟨w, rfl, rfl⟩
  · unfold AxAny
    exact ⟨hr6, rfl, rfl⟩
theorem ax_cross4
    (hr : Region.ready .any #[⟨some d0, .load ty (.tmp a), y0, p0, f0, none⟩, ⟨some d1, .load ty (.tmp b), y1, p1, f1, none⟩, ⟨none, .store ty (.tmp c) (.tmp d0), y2, p2, f2, none⟩, ⟨none, .store ty (.tmp e) (.tmp d1), y3, p3, f3, none⟩] (bits4 0 0 0 0) = [0, 1] ∧
      Region.ready .any #[⟨some d0, .load ty (.tmp a), y0, p0, f0, none⟩, ⟨some d1, .load ty (.tmp b), y1, p1, f1, none⟩, ⟨none, .store ty (.tmp c) (.tmp d0), y2, p2, f2, none⟩, ⟨none, .store ty (.tmp e) (.tmp d1), y3, p3, f3, none⟩] (bits4 1 0 0 0) = [1, 2] ∧
      Region.ready .any #[⟨some d0, .load ty (.tmp a), y0, p0, f0, none⟩, ⟨some d1, .load ty (.tmp b), y1, p1, f1, none⟩, ⟨none, .store ty (.tmp c) (.tmp d0), y2, p2, f2, none⟩, ⟨none, .store ty (.tmp e) (.tmp d1), y3, p3, f3, none⟩] (bits4 0 1 0 0) = [0] ∧
      Region.ready .any #[⟨some d0, .load ty (.tmp a), y0, p0, f0, none⟩, ⟨some d1, .load ty (.tmp b), y1, p1, f1, none⟩, ⟨none, .store ty (.tmp c) (.tmp d0), y2, p2, f2, none⟩, ⟨none, .store ty (.tmp e) (.tmp d1), y3, p3, f3, none⟩] (bits4 1 1 0 0) = [2] ∧
      Region.ready .any #[⟨some d0, .load ty (.tmp a), y0, p0, f0, none⟩, ⟨some d1, .load ty (.tmp b), y1, p1, f1, none⟩, ⟨none, .store ty (.tmp c) (.tmp d0), y2, p2, f2, none⟩, ⟨none, .store ty (.tmp e) (.tmp d1), y3, p3, f3, none⟩] (bits4 1 0 1 0) = [1] ∧
      Region.ready .any #[⟨some d0, .load ty (.tmp a), y0, p0, f0, none⟩, ⟨some d1, .load ty (.tmp b), y1, p1, f1, none⟩, ⟨none, .store ty (.tmp c) (.tmp d0), y2, p2, f2, none⟩, ⟨none, .store ty (.tmp e) (.tmp d1), y3, p3, f3, none⟩] (bits4 1 1 1 0) = [3])
    (hr5 : Region.ready .any #[⟨some d0, .load ty (.tmp a), y0, p0, f0, none⟩, ⟨some d1, .load ty (.tmp b), y1, p1, f1, none⟩, ⟨none, .store ty (.tmp c) (.tmp d0), y2, p2, f2, none⟩, ⟨none, .store ty (.tmp e) (.tmp d1), y3, p3, f3, none⟩] (bits4 1 1 1 1) = [])
    {v0 v1 : Value} (hne : d0 ≠ d1 ∧ b ≠ d0 ∧ a ≠ d1 ∧ c ≠ d0 ∧ c ≠ d1 ∧ e ≠ d0 ∧ e ≠ d1)
    (ha : aLoad tt H ty (s a) = some v0) (hb : aLoad tt H ty (s b) = some v1) (hc : aStore tt H ty (s c) v0 = some H1) (hb1 : aLoad tt H1 ty (s b) = some v1) (he : aStore tt H1 ty (s e) v1 = some H2)
    (k : Q .normal ((s.put (some d0) v0).put (some d1) v1) H2) :
    Ax tt S (.region id #[⟨some d0, .load ty (.tmp a), y0, p0, f0, none⟩, ⟨some d1, .load ty (.tmp b), y1, p1, f1, none⟩, ⟨none, .store ty (.tmp c) (.tmp d0), y2, p2, f2, none⟩, ⟨none, .store ty (.tmp e) (.tmp d1), y3, p3, f3, none⟩] true) Q s H := by
  refine ax_cross (n := 0) _ _ _ _ rfl rfl rfl rfl rfl rfl rfl rfl bits4 ⟨rfl, rfl, rfl, rfl, rfl, rfl, rfl, rfl, rfl, rfl⟩ hr hne ha hb hc hb1 he ⟨_, _, ?_, k⟩
  unfold AxAny
  exact ⟨hr5, rfl, rfl⟩
end
end Go.Fw
set_option linter.unusedSimpArgs false
set_option linter.unusedVariables false
namespace Go.Fw
open Go

/-- a rotation as the program holds it -/
structure RR where
  g : Bool
  n : List UInt8
  d : List UInt8
  g' : Bool
  n' : List UInt8
  d' : List UInt8
deriving DecidableEq
def RR.val (r : RR) : Value := rV r.g r.n r.d r.g' r.n' r.d'
def RR.cells (r : RR) : List Value := [.bool r.g, .string (bs r.n), .string (bs r.d), .bool r.g', .string (bs r.n'), .string (bs r.d')]
def RR.rot (r : RR) : Rot := ⟨qval r.g r.n r.d, qval r.g' r.n' r.d'⟩
def RR.err (r : RR) : Int := if (isCan r.g r.n r.d && isCan r.g' r.n' r.d') = true then (if r.rot.ok then 0 else 2) else 1
def RR.of (r : Rot) : RR := ⟨decide (r.c.num < 0), digB r.c.num.natAbs, denB r.c.den, decide (r.s.num < 0), digB r.s.num.natAbs, denB r.s.den⟩
structure RR.le (r : RR) (k : Nat) : Prop where
  n : 8 * r.n.length ≤ k
  d : 8 * r.d.length ≤ k
  n' : 8 * r.n'.length ≤ k
  d' : 8 * r.d'.length ≤ k
theorem RR.le.c {r : RR} {k : Nat} (h : r.le k) : QV (qV r.g r.n r.d) r.rot.c k := ⟨_, _, _, rfl, rfl, h.n, h.d⟩
theorem RR.le.s {r : RR} {k : Nat} (h : r.le k) : QV (qV r.g' r.n' r.d') r.rot.s k := ⟨_, _, _, rfl, rfl, h.n', h.d'⟩
theorem RR.le.mono {r : RR} {k k' : Nat} (h : r.le k) (hk : k ≤ k') : r.le k' := ⟨by have := h.n; omega, by have := h.d; omega, by have := h.n'; omega, by have := h.d'; omega⟩
theorem RR.of_rot (r : Rot) : (RR.of r).rot = r := by
  unfold RR.rot RR.of
  simp only [qval_mk]
theorem RR.of_val (r : Rot) : (RR.of r).val = mkR r.c r.s := rfl
structure Rot.Sz (r : Rot) (k : Nat) : Prop where
  c : Fw.Sz r.c k
  s : Fw.Sz r.s k
theorem Rot.Sz.le {r : Rot} {k : Nat} (h : r.Sz k) : (RR.of r).le (k + 7) := ⟨digB_len2 h.c.num, denB_len h.c.den, digB_len2 h.s.num, denB_len h.s.den⟩
theorem RR.le.sz {r : RR} {k : Nat} (h : r.le k) : r.rot.Sz (k + 1) := ⟨h.c.sz, h.s.sz⟩
theorem Rot.Sz.mono {r : Rot} {k k' : Nat} (h : r.Sz k) (hk : k ≤ k') : r.Sz k' := ⟨h.c.mono hk, h.s.mono hk⟩
theorem Rot.Sz.back {r : Rot} {k : Nat} (h : r.Sz k) : r.back.Sz k := ⟨h.c, h.s.neg⟩
theorem Rot.Sz.thn {a b : Rot} {j k : Nat} (h : a.Sz j) (h' : b.Sz k) : (a.thn b).Sz (2 * j + 2 * k + 1) :=
  ⟨((h.c.mul h'.c).sub (h.s.mul h'.s)).mono (by omega), ((h.s.mul h'.c).add (h.c.mul h'.s)).mono (by omega)⟩
theorem RR.err_of (r : Rot) : (RR.of r).err = if r.ok then 0 else 2 := by
  unfold RR.err
  rw [RR.of_rot]
  unfold RR.of
  simp only [isCan_mk, Bool.and_self, if_true]
theorem RR.err_zero {r : RR} : r.err = 0 ↔ r = RR.of r.rot ∧ r.rot.ok := by
  unfold RR.err
  constructor
  · intro h
    split at h
    · rename_i hc
      split at h
      · rename_i ho
        refine ⟨?_, ho⟩
        rw [Bool.and_eq_true] at hc
        have h1 := (isCan_iff _ _ _).1 hc.1
        have h2 := (isCan_iff _ _ _).1 hc.2
        obtain ⟨x1, x2, x3⟩ := qV_inj.1 h1
        obtain ⟨y1, y2, y3⟩ := qV_inj.1 h2
        unfold RR.of RR.rot
        cases r
        simp only [RR.mk.injEq] at *
        exact ⟨x1, x2, x3, y1, y2, y3⟩
      · omega
    · omega
  · rintro ⟨h, ho⟩
    have e : (isCan r.g r.n r.d && isCan r.g' r.n' r.d') = true := by
      rw [h]
      unfold RR.of
      simp only [isCan_mk, Bool.and_self]
    rw [if_pos e, if_pos ho]
theorem RR.err_cases (r : RR) : r.err = 0 ∨ r.err = 1 ∨ r.err = 2 := by
  unfold RR.err
  split
  · split <;> simp
  · simp
/-- reading further back -/
theorem rd_more {H : Heap} {b i n : Nat} {x : List Value} (h : rd H b i n = some x) (G : Heap) : rd (H ++ G) b i n = some x := by
  unfold rd at h ⊢
  cases hb : H[b]? with
  | none => rw [hb] at h; cases h
  | some B =>
    have : b < H.length := by rcases List.getElem?_eq_some_iff.1 hb with ⟨h, _⟩; exact h
    rw [List.getElem?_append_left this, hb]
    rw [hb] at h
    exact h
def RR.bk (r : RR) : RR := ⟨r.g, r.n, r.d, decide ((-r.rot.s).num < 0), digB (-r.rot.s).num.natAbs, denB (-r.rot.s).den⟩
theorem RR.bk_rot (r : RR) : r.bk.rot = r.rot.back := by
  unfold RR.bk RR.rot Rot.back
  simp only [qval_mk]
theorem RR.le.bk {r : RR} {k : Nat} (h : r.le k) : r.bk.le (k + 8) := by
  have := h.s.sz.neg
  exact ⟨by have := h.n; unfold RR.bk; simp only; omega, by have := h.d; unfold RR.bk; simp only; omega, digB_len2 this.num, denB_len this.den⟩
theorem cmpQ_cases (a b : Rat) : (cmpQ a b = -1 ∧ a < b) ∨ (cmpQ a b = 0 ∧ a = b) ∨ (cmpQ a b = 1 ∧ b < a) := by
  unfold cmpQ
  by_cases h1 : a < b
  · rw [if_pos h1]; exact .inl ⟨rfl, h1⟩
  · rw [if_neg h1]
    by_cases h2 : b < a
    · rw [if_pos h2]; exact .inr (.inr ⟨rfl, h2⟩)
    · rw [if_neg h2]; exact .inr (.inl ⟨rfl, by grind⟩)
/-- the rotation with a tangent of half its angle -/
def Rot.ofT (t : Rat) : Rot := ⟨(1 - t * t) / (1 + t * t), (t + t) / (1 + t * t)⟩
def Rot.zero : Rot := ⟨0, 0⟩
/-- a rotation between two -/
def Rot.mid (a b : Rot) : Rot :=
  if (a.back.thn b).half = 1 then a.thn ⟨0, 1⟩ else
  a.thn (Rot.ofT (smpQ ((a.back.thn b).s / (1 + (a.back.thn b).c) / 3) ((a.back.thn b).s / (1 + (a.back.thn b).c) / 3 + (a.back.thn b).s / (1 + (a.back.thn b).c) / 3)))
theorem Rot.ofT_ok (t : Rat) : (Rot.ofT t).ok := by
  unfold Rot.ok Rot.ofT
  have h : 0 ≤ t * t := by
    rcases Rat.le_total (a := 0) (b := t) with h | h
    · exact Rat.mul_nonneg h h
    · have := Rat.mul_nonneg (a := -t) (b := -t) (by grind) (by grind)
      grind
  have h2 : 1 + t * t ≠ 0 := by grind
  simp only
  grind
theorem sz_one {k : Nat} (hk : 2 ≤ k) : Fw.Sz (1 : Rat) k := by
  have h2 : 2 ^ 1 ≤ 2 ^ k := Nat.pow_le_pow_right (by decide) (by omega)
  have h4 : 2 ^ 2 ≤ 2 ^ k := Nat.pow_le_pow_right (by decide) (by omega)
  have h : (1 : Rat).num = 1 := rfl
  have h' : (1 : Rat).den = 1 := rfl
  exact ⟨by rw [h]; simp; omega, by rw [h']; omega⟩
theorem Rot.Sz.ofT {t : Rat} {k : Nat} (h : Fw.Sz t k) : (Rot.ofT t).Sz (6 * k + 12) := by
  have h1 := (sz_one (k := 2) (by decide)).sub (h.mul h)
  have h2 := (sz_one (k := 2) (by decide)).add (h.mul h)
  exact ⟨(h1.div h2 (by omega)).mono (by omega), ((h.add h).div h2 (by omega)).mono (by omega)⟩
theorem Rot.half_one {r : Rot} (hr : r.ok) (h : r.half ≠ 1) : 0 ≤ r.s ∧ 1 + r.c ≠ 0 ∧ 0 < 1 + r.c := by
  rcases r.half_cases with ⟨h1, h2⟩ | ⟨h1, h2⟩
  · unfold Rot.ok at hr
    have hs : 0 ≤ r.s := by rcases h2 with h2 | h2 <;> grind
    have hc : 0 ≤ r.s * r.s := Rat.mul_nonneg hs hs
    have hne : 1 + r.c ≠ 0 := by
      intro h0
      have : r.c = -1 := by grind
      rcases h2 with h2 | ⟨h2, h3⟩
      · have h6 := Rat.mul_pos h2 h2
        have h5 : r.s * r.s = 0 := by rw [this] at hr; grind
        rw [h5] at h6
        exact absurd h6 Rat.lt_irrefl
      · grind
    refine ⟨hs, hne, ?_⟩
    refine Classical.byContradiction fun hn => ?_
    have hlt : 1 + r.c < 0 := by grind
    have : 0 < (-(1 + r.c)) * (1 - r.c) := Rat.mul_pos (by grind) (by grind)
    grind
  · exact absurd h1 h
end Go.Fw
set_option linter.unusedSimpArgs false
set_option linter.unusedVariables false
namespace Go.Fw
open Go

/-! ### objects that hold no cells -/
def noCells : Obj → Bool | .cells .. => false | _ => true
theorem cell_none {W : World} {a : Addr} {o : Obj} (h : W.heap[a.block]? = some o) (ho : noCells o = true) : W.cell? a = none := by
  unfold World.cell?
  rw [h]
  cases o <;> first | rfl | (exact Bool.noConfusion (show false = true from ho))
theorem frozen_none {W : World} {a : Addr} {o : Obj} (h : W.heap[a.block]? = some o) (ho : noCells o = true) : W.frozen? a = false := by
  unfold World.frozen?
  rw [h]
  cases o <;> first | rfl | (exact Bool.noConfusion (show false = true from ho))
theorem cell_put {W : World} {k : Nat} {o o' : Obj} (h : W.heap[k]? = some o) (h1 : noCells o = true) (h2 : noCells o' = true) (a : Addr) : (W.putObj k o').cell? a = W.cell? a := by
  by_cases e : a.block = k
  · rw [cell_none (W := W.putObj k o') (o := o') (by rw [e, World.putObj_heap_same (Array.getElem?_eq_some_iff.1 h).1]) h2, cell_none (by rw [e]; exact h) h1]
  · unfold World.cell?
    rw [World.putObj_heap_other e]
theorem frozen_put {W : World} {k : Nat} {o o' : Obj} (h : W.heap[k]? = some o) (h1 : noCells o = true) (h2 : noCells o' = true) (a : Addr) : (W.putObj k o').frozen? a = W.frozen? a := by
  by_cases e : a.block = k
  · rw [frozen_none (W := W.putObj k o') (o := o') (by rw [e, World.putObj_heap_same (Array.getElem?_eq_some_iff.1 h).1]) h2, frozen_none (by rw [e]; exact h) h1]
  · unfold World.frozen?
    rw [World.putObj_heap_other e]
theorem Mem.put {ρ : Inj} {H : Heap} {W : World} (hM : Mem ρ H W) {k : Nat} {o o' : Obj} (h : W.heap[k]? = some o) (h1 : noCells o = true) (h2 : noCells o' = true) : Mem ρ H (W.putObj k o') := by
  refine ⟨hM.dom, hM.gone, fun b p hb => ?_, hM.apart⟩
  obtain ⟨B, hB, l⟩ := hM.lies b p hb
  exact ⟨B, hB, ⟨by rw [World.putObj_size]; exact l.old, l.esz, l.pos, l.len, fun i v hv => by rw [cell_put h h1 h2]; exact l.cell i v hv, fun ho i hi => by rw [cell_put h h1 h2, frozen_put h h1 h2]; exact l.mine ho i hi⟩⟩
theorem cell_push {W : World} {o : Obj} (ho : noCells o = true) (a : Addr) (ha : a.block < W.heap.size) : (World.cell? { W with heap := W.heap.push o } a) = W.cell? a := cell_old ha
theorem frozen_push {W : World} {o : Obj} (ho : noCells o = true) (a : Addr) (ha : a.block < W.heap.size) : (World.frozen? { W with heap := W.heap.push o } a) = W.frozen? a := frozen_old ha
theorem Mem.push {ρ : Inj} {H : Heap} {W : World} (hM : Mem ρ H W) {o : Obj} (ho : noCells o = true) : Mem ρ H { W with heap := W.heap.push o } := by
  refine ⟨hM.dom, hM.gone, fun b p hb => ?_, hM.apart⟩
  obtain ⟨B, hB, l⟩ := hM.lies b p hb
  exact ⟨B, hB, ⟨by simp; have := l.old; omega, l.esz, l.pos, l.len, fun i v hv => by rw [cell_push ho _ l.old]; exact l.cell i v hv, fun h i hi => by rw [cell_push ho _ l.old, frozen_push ho _ l.old]; exact l.mine h i hi⟩⟩
theorem Step.push {ρ : Inj} {H : Heap} {W : World} (hM : Mem ρ H W) {o : Obj} (ho : noCells o = true) : Step ρ H W ρ H { W with heap := W.heap.push o } :=
  ⟨hM.push ho, Nat.le_refl _, .refl _, fun _ _ h => h, fun b p B h1 h2 _ => ⟨b, p, B, h1, h2, rfl, id⟩, ⟨rfl, rfl, rfl, by simp, fun k hk _ => by simp [Array.getElem?_push, show k ≠ W.heap.size by omega]⟩⟩
/-- a block that is new since is turned -/
theorem Step.put_new {ρ ρ' : Inj} {H H' : Heap} {W W' : World} (s : Step ρ H W ρ' H' W') {k : Nat} {o o' : Obj} (hk : W.heap.size ≤ k) (h : W'.heap[k]? = some o) (h1 : noCells o = true) (h2 : noCells o' = true) : Step ρ H W ρ' H' (W'.putObj k o') :=
  ⟨s.mem.put h h1 h2, s.len, s.le, s.fresh, s.placed, ⟨s.frame.os, s.frame.tape, s.frame.output, by rw [World.putObj_size]; exact s.frame.size, fun j hj hn => by rw [World.putObj_heap_other (by omega)]; exact s.frame.block j hj hn⟩⟩
/-- a block is turned, and turned back -/
theorem Step.sand {ρ ρ' : Inj} {H H' : Heap} {W W' : World} {k : Nat} {o o1 : Obj} (h : W.heap[k]? = some o) (h1 : noCells o = true) (h2 : noCells o1 = true) (hn : ¬ Owned ρ H k) (s : Step ρ H (W.putObj k o1) ρ' H' W') : Step ρ H W ρ' H' (W'.putObj k o) := by
  have hlt := (Array.getElem?_eq_some_iff.1 h).1
  have hk' : W'.heap[k]? = some o1 := by
    rw [s.frame.block k (by rw [World.putObj_size]; exact hlt) hn]
    exact World.putObj_heap_same hlt
  refine ⟨s.mem.put hk' h2 h1, s.len, s.le, s.fresh, fun b p B g1 g2 g3 => s.placed b p B g1 g2 (by rw [World.putObj_size]; exact g3), ⟨s.frame.os, s.frame.tape, s.frame.output, ?_, fun j hj hnj => ?_⟩⟩
  · have := s.frame.size
    rw [World.putObj_size] at this ⊢; exact this
  · by_cases e : j = k
    · subst e
      rw [World.putObj_heap_same (Array.getElem?_eq_some_iff.1 hk').1, h]
    · rw [World.putObj_heap_other e, s.frame.block j (by rw [World.putObj_size]; exact hj) hnj, World.putObj_heap_other e]

/-! ### iterators -/
/-- the calls of an iterator: yield too -/
def SY (P : Program) (l : Nat) (Y : Array Value → Heap → Heap → Prop) : ACall := fun fn => match fn with
  | .func g => Sim P g
  | .yield l' => fun as H v H' => l' = l ∧ v = .bool true ∧ Y as H H'
  | _ => fun _ _ _ _ => False
/-- what an iterator does, whose loop goes on after each round as Y says -/
def SimY (P : Program) (g : FuncId) (Y : Array Value → Heap → Heap → Prop) (cap : Array Value) (H H' : Heap) : Prop :=
  (∃ fn, P.funcs[g]? = some fn ∧ (fn.name == "runtime.NumGoroutine") = false ∧ fn.body.isNone = false) ∧
  ∀ (l : Nat) (X : Inj → Heap → World → Prop), (∀ {ρ H W ρ' H' W'}, X ρ H W → Step ρ H W ρ' H' W' → X ρ' H' W') →
    (∀ as H1 H2, Y as H1 H2 → ∀ m ρ W ARGS, Mem ρ H1 W → X ρ H1 W → VRs ρ as ARGS → YieldAt (FW none) m P l ARGS W fun e W' => ∃ ρ', e = .returned (.bool true) ∧ Step ρ H1 W ρ' H2 W') →
    ∀ (m : Nat) (ρ : Inj) (W : World) (CAP : Array Value), Mem ρ H W → X ρ H W → VRs ρ cap CAP → CallsIn (FW none) m P g (#[.func (.yield l) #[] #[]] ++ CAP) W fun e W' => ∃ V ρ', e = .returned V ∧ Step ρ H W ρ' H' W'

section
variable {P : Program} {tt : TT} {m n : Nat} {ds : List Deferred} {S : ACall} {X : Inj → Heap → World → Prop}
theorem rel_ini {args ARGS : Array Value} {ρ : Inj} {H : Heap} {W : World} {k : Nat} (hM : Mem ρ H W) (hA : VRs ρ args ARGS) (ha : args.size ≤ k) :
    Rel k [] ρ (ini args) H { tmps := ARGS ++ Array.replicate (k - ARGS.size) undef, defers := [] } W := by
  have hsz := hA.1
  refine ⟨hM, by simp; omega, rfl, fun t => ?_⟩
  unfold ini
  by_cases hlt : t < args.size
  · have e1 : args.getD t undef = args[t] := by simp [Array.getD_eq_getD_getElem?, hlt]
    have e2 : (ARGS ++ Array.replicate (k - ARGS.size) undef).getD t undef = ARGS[t] := by
      rw [Array.getD_eq_getD_getElem?, Array.getElem?_append_left (by omega), Array.getElem?_eq_getElem (by omega)]; rfl
    rw [e1]
    simp only
    rw [e2]; exact hA.2 t hlt (by omega)
  · have e1 : args.getD t undef = undef := by simp [Array.getD_eq_getD_getElem?, Array.getElem?_eq_none (by omega : args.size ≤ t)]
    have e2 : (ARGS ++ Array.replicate (k - ARGS.size) undef).getD t undef = undef := by
      rw [Array.getD_eq_getD_getElem?, Array.getElem?_append_right (by omega)]
      by_cases h2 : t - ARGS.size < k - ARGS.size
      · simp [Array.getElem?_replicate, h2]
      · simp [Array.getElem?_replicate, h2]
    rw [e1]
    simp only
    rw [e2]; exact VR.undef ρ

theorem simY_of_ax {g : FuncId} {fn : Func} {c : Code} {cap : Array Value} {H H1 : Heap} {Y : Array Value → Heap → Heap → Prop} (hT : TOK P tt) (hmix : P.follows .mixedOrders = true) (hf : P.funcs[g]? = some fn) (hb : fn.body = some c)
    (hname : (fn.name == "runtime.NumGoroutine") = false) (hok : codeOk fn.ntmps c = true) (ha : cap.size + 1 ≤ fn.ntmps)
    (h : ∀ l, Ax tt (SY P l Y) c (retP tt fn (fun _ H' => H' = H1)) (ini (#[.func (.yield l) #[] #[]] ++ cap)) H) : SimY P g Y cap H H1 := by
  refine ⟨⟨fn, hf, hname, by rw [hb]; rfl⟩, fun l X hst hy m ρ W CAP hM hX hC => ?_⟩
  have hS : Snd P none (SY P l Y) X := by
    refine ⟨hst, fun h => h, fun {l'} {as} {H} {v} {H'} hl m ρ W ARGS hM hX hA => ?_⟩
    obtain ⟨rfl, rfl, hY⟩ := hl
    obtain ⟨fn, tmps, assign, body, h1, h2⟩ := hy as H H' hY m ρ W ARGS hM hX hA
    exact ⟨fn, tmps, assign, body, h1, h2.mono (fun e W' ⟨ρ', he, hs⟩ => ⟨_, ρ', he, .bool _, hs⟩)⟩
  have hA : VRs ρ (#[.func (.yield l) #[] #[]] ++ cap) (#[.func (.yield l) #[] #[]] ++ CAP) := by
    refine ⟨by simp [hC.1], fun i h1 h2 => ?_⟩
    cases i with
    | zero => simpa using VR.yield l
    | succ i =>
      have e1 : (#[Value.func (.yield l) #[] #[]] ++ cap)[i + 1] = cap[i]'(by simp at h1; omega) := by simp [Array.getElem_append]
      have e2 : (#[Value.func (.yield l) #[] #[]] ++ CAP)[i + 1] = CAP[i]'(by simp at h2; omega) := by simp [Array.getElem_append]
      rw [e1, e2]; exact hC.2 i _ _
  have hR := rel_ini hM hA (show (#[Value.func (.yield l) #[] #[]] ++ cap).size ≤ fn.ntmps by simp; omega)
  refine callsIn_of_wp hf hb trivial ?_ rfl
  refine ax_sound (r := none) (m := m) (ds := []) (QC := bodyPost P fn fun e W' => ∃ V ρ', e = .returned V ∧ Step ρ H W ρ' H1 W') hS hT hmix c hok (h l) hX hR ?_
  intro e s' H' a' ρ' W' hQ hR' hs
  have fin : (∃ vs, resL tt s' H' fn.results.toList = some vs ∧ H' = H1) → a'.defers = [] ∧ ∃ V, (results fn a'.tmps).run P W' = .ok V W' ∧ ∃ V' ρ'', Ending.returned V = .returned V' ∧ Step ρ H W ρ'' H1 W' := by
    rintro ⟨vs, h1, rfl⟩
    obtain ⟨V, h2, h3⟩ := results_sim (fn := fn) hT hR' h1
    exact ⟨hR'.defers, V, h2, V, ρ', rfl, hs⟩
  cases e with
  | normal => exact fin hQ
  | ret => exact fin hQ
  | exit id => exact hQ.elim

/-! ### code with ranges over functions at its top -/
def putPs (s : Slots) (ps : List Tmp) (as : List Value) : Slots := (ps.zip as).foldl (fun s x => s.put (some x.1) x.2) s
def YR (tt : TT) (P : Program) (s : Slots) (ps : Array Tmp) (x y : Code) : Array Value → Heap → Heap → Prop := fun as H1 H2 => as.size = ps.size ∧
  Ax tt (SimF P) x (AEx.thn (fun s1 H1' => Ax tt (SimF P) y (fun e _ H' => e = .normal ∧ H' = H2) s1 H1') (fun _ _ _ => False)) (putPs s ps.toList as.toList) H1
def AxT (tt : TT) (P : Program) : Code → APost → Slots → Heap → Prop
  | .seq a b, Q, s, H => AxT tt P a (AEx.thn (AxT tt P b Q) Q) s H
  | .cond c t e, Q, s, H => ∃ b, ev s c = .bool b ∧ if b = true then AxT tt P t Q s H else AxT tt P e Q s H
  | .block id b, Q, s, H => AxT tt P b (AEx.inBlock id Q) s H
  | .rangeFunc f ps x y, Q, s, H => ∃ g cap H', ev s f = .func (.func g) #[] cap ∧ SimY P g (YR tt P s ps x y) cap H H' ∧ Q .normal s H'
  | .skip, Q, s, H => Ax tt (SimF P) .skip Q s H
  | .region id ops d, Q, s, H => Ax tt (SimF P) (.region id ops d) Q s H
  | .loop b, Q, s, H => Ax tt (SimF P) (.loop b) Q s H
  | .exit id, Q, s, H => Ax tt (SimF P) (.exit id) Q s H
  | .ret, Q, s, H => Ax tt (SimF P) .ret Q s H
  | _, _, _, _ => False
def codeOkT (n : Nat) : Code → Bool
  | .seq a b => codeOkT n a && codeOkT n b
  | .cond c t e => constOk c && codeOkT n t && codeOkT n e
  | .block _ b => codeOkT n b
  | .rangeFunc f ps x y => constOk f && ps.toList.all (· < n) && codeOk n x && codeOk n y
  | c => codeOk n c
end
end Go.Fw
set_option linter.unusedSimpArgs false
set_option linter.unusedVariables false
namespace Go.Fw
open Go

section
variable {P : Program} {tt : TT} {m n : Nat} {ds : List Deferred}

/-- the marks among the deferred calls -/
def Marks (B : Nat) (ds : List Deferred) (ρ : Inj) (H : Heap) (W : World) : Prop :=
  ∃ ks : List Nat, ds = ks.map (fun k => { target := .collected k, args := #[] }) ∧ ks.Nodup ∧ ∀ k ∈ ks, B ≤ k ∧ W.heap[k]? = some (.deferred (some [])) ∧ ¬ Owned ρ H k
theorem Marks.step {B : Nat} {ρ ρ' : Inj} {H H' : Heap} {W W' : World} (h : Marks B ds ρ H W) (s : Step ρ H W ρ' H' W') : Marks B ds ρ' H' W' := by
  obtain ⟨ks, h1, h2, h3⟩ := h
  refine ⟨ks, h1, h2, fun k hk => ?_⟩
  obtain ⟨g1, g2, g3⟩ := h3 k hk
  have hlt := (Array.getElem?_eq_some_iff.1 g2).1
  exact ⟨g1, (s.frame.block k hlt g3).trans g2, fun ho => g3 (s.owned k hlt ho)⟩

theorem putPs_rel {ρ : Inj} : ∀ (ps : List Tmp) (as AS : List Value) (s : Slots) (tmps : Array Value), (∀ t, VR ρ (s t) (tmps.getD t undef)) → (∀ p ∈ ps, p < tmps.size) → VRl ρ as AS →
    (∀ t, VR ρ (putPs s ps as t) (((ps.zip AS).foldl (fun T (x : Tmp × Value) => T.setIfInBounds x.1 x.2) tmps).getD t undef)) ∧ ((ps.zip AS).foldl (fun T (x : Tmp × Value) => T.setIfInBounds x.1 x.2) tmps).size = tmps.size := by
  intro ps
  induction ps with
  | nil => intro as AS s tmps h _ _; exact ⟨by simpa [putPs] using h, rfl⟩
  | cons p ps ih =>
    intro as AS s tmps h hp hA
    obtain ⟨hl, hv⟩ := hA
    cases as with
    | nil =>
      cases AS with
      | nil => exact ⟨by simpa [putPs] using h, rfl⟩
      | cons _ _ => simp at hl
    | cons a as =>
      cases AS with
      | nil => simp at hl
      | cons A AS =>
        have hput := put_rel (a := { tmps := tmps, defers := [] }) h (dst := some p) (fun d hd => by cases hd; exact hp p (by simp)) (hv 0 (by simp) (by simp))
        simp only [List.getElem_cons_zero, Act.put] at hput
        have := ih as AS (s.put (some p) a) (tmps.setIfInBounds p A) hput (fun q hq => by simpa using hp q (by simp [hq])) ⟨by simpa using hl, fun i h1 h2 => by
          have := hv (i + 1) (by simp; omega) (by simp; omega)
          simp only [List.getElem_cons_succ] at this
          exact this⟩
        refine ⟨this.1, ?_⟩
        rw [List.zip_cons_cons, List.foldl_cons, this.2]; simp

theorem range_sound {f : Operand} {ps : Array Tmp} {x y : Code} {QC : Exit → Act → World → Prop} {s : Slots} {H H' : Heap} {ρ : Inj} {a : Act} {W : World} {g : FuncId} {cap : Array Value} {B : Nat} (hT : TOK P tt) (hmix : P.follows .mixedOrders = true)
    (hf : constOk f = true) (hps : ∀ p ∈ ps.toList, p < n) (hx : codeOk n x = true) (hy : codeOk n y = true) (he : ev s f = .func (.func g) #[] cap) (hI : SimY P g (YR tt P s ps x y) cap H H') (hR : Rel n ds ρ s H a W) (hB : B ≤ W.heap.size) (hmk : Marks B ds ρ H W)
    (hn : ∀ a' ρ' W' ds', Rel n ds' ρ' s H' a' W' → Marks B ds' ρ' H' W' → Step ρ H W ρ' H' W' → QC .normal a' W') : (Code.rangeFunc f ps x y).wpIn (FW none) m P QC a W := by
  obtain ⟨⟨fg, hfg, hname, hbody⟩, hI⟩ := hI
  refine wpIn_rangeFunc ?_
  intro fn hfn
  obtain ⟨rc, hrec⟩ : ∃ rc : Loop, rc = { state := .ready, pending := none, fn, tmps := a.tmps, params := ps, assign := x, body := y, defers := W.heap.size } := ⟨_, rfl⟩
  obtain ⟨W0, hW0⟩ : ∃ W0 : World, W0 = { W with heap := W.heap.push (.deferred (some [])) } := ⟨_, rfl⟩
  obtain ⟨W1, hW1⟩ : ∃ W1 : World, W1 = { W0 with heap := W0.heap.push (.loop rc) } := ⟨_, rfl⟩
  have s0 : Step ρ H W ρ H W0 := by rw [hW0]; exact Step.push hR.mem rfl
  have s1 : Step ρ H W0 ρ H W1 := by rw [hW1]; exact Step.push s0.mem rfl
  have z0 : W0.heap.size = W.heap.size + 1 := by rw [hW0]; simp
  have z1 : W1.heap.size = W.heap.size + 2 := by rw [hW1]; simp [z0]
  have hL1 : W1.heap[W.heap.size + 1]? = some (.loop rc) := by rw [hW1]; simp only [Array.getElem?_push]; rw [if_pos z0.symm]
  have hD1 : W1.heap[W.heap.size]? = some (.deferred (some [])) := by
    rw [hW1]; simp only [Array.getElem?_push]; rw [if_neg (by omega), hW0]; simp
  have hnew : ∀ k, W.heap.size ≤ k → ¬ Owned ρ H k := by
    rintro k hk ⟨b, p, B, h1, h2, _, rfl⟩
    obtain ⟨B', h3, l⟩ := hR.mem.lies b p h1
    have := l.old
    omega
  have hev := ev_rel hR.slots hf
  rw [he] at hev
  obtain ⟨X', CAP, hX⟩ := hev.func_inv
  rw [hX] at hev
  have hXC : X' = #[] ∧ VRs ρ cap CAP := by
    cases hev with
    | func _ _ _ _ _ h1 h2 h3 h4 => exact ⟨Array.eq_empty_of_size_eq_zero (by simpa using h1.symm), h2, h4⟩
  obtain ⟨rfl, hC⟩ := hXC
  -- what the rounds keep
  let X : Inj → Heap → World → Prop := fun ρ' H' W' => W'.heap[W.heap.size + 1]? = some (.loop rc) ∧ W'.heap[W.heap.size]? = some (.deferred (some [])) ∧ ¬ Owned ρ' H' (W.heap.size + 1) ∧ ¬ Owned ρ' H' W.heap.size ∧ ρ.Le ρ'
  have hst : ∀ {ρ H W ρ' H' W'}, X ρ H W → Step ρ H W ρ' H' W' → X ρ' H' W' := by
    rintro ρ1 H1 W1 ρ2 H2 W2 ⟨g1, g2, g3, g4, g5⟩ s
    have l1 := (Array.getElem?_eq_some_iff.1 g1).1
    have l2 := (Array.getElem?_eq_some_iff.1 g2).1
    exact ⟨(s.frame.block _ l1 g3).trans g1, (s.frame.block _ l2 g4).trans g2, fun ho => g3 (s.owned _ l1 ho), fun ho => g4 (s.owned _ l2 ho), g5.trans s.le⟩
  have hX1 : X ρ H W1 := ⟨hL1, hD1, hnew _ (by omega), hnew _ (by omega), .refl _⟩
  have hround : ∀ as H1 H2, YR tt P s ps x y as H1 H2 → ∀ m ρ W2 ARGS, Mem ρ H1 W2 → X ρ H1 W2 → VRs ρ as ARGS → YieldAt (FW none) m P (W.heap.size + 1) ARGS W2 fun e W' => ∃ ρ', e = .returned (.bool true) ∧ Step ρ H1 W2 ρ' H2 W' := by
    rintro as H1 H2 ⟨hsz, hax⟩ m ρ2 W2 ARGS hM hX hA
    obtain ⟨g1, g2, g3, g4, g5⟩ := id hX
    have hy' := run_yield (P := P) (args := ARGS) g1 (by rw [hrec, ← hsz]; exact hA.1.symm)
    refine ⟨_, _, _, _, hy', ?_⟩
    rw [hrec]
    simp only
    refine roundIn_of_wpIn (F := FW none) trivial ?_
    have hAl : VRl ρ2 as.toList ARGS.toList := ⟨by simpa using hA.1, fun i h1 h2 => by simpa using hA.2 i (by simpa using h1) (by simpa using h2)⟩
    have hpr := putPs_rel ps.toList as.toList ARGS.toList s a.tmps (fun t => (hR.slots t).mono g5) (fun p hp => by rw [hR.size]; exact hps p hp) hAl
    have hfold : (Array.foldl (fun (tmps : Array Value) (x : Tmp × Value) => tmps.setIfInBounds x.1 x.2) a.tmps (ps.zip ARGS)) = ((ps.toList.zip ARGS.toList).foldl (fun T (x : Tmp × Value) => T.setIfInBounds x.1 x.2) a.tmps) := by
      rw [← Array.foldl_toList, Array.toList_zip]
    have hRel : Rel n [] ρ2 (putPs s ps.toList as.toList) H1 { tmps := (ps.zip ARGS).foldl (fun (tmps : Array Value) (x : Tmp × Value) => tmps.setIfInBounds x.1 x.2) a.tmps, defers := [] } W2 := by
      refine ⟨hM, ?_, rfl, ?_⟩
      · rw [hfold, hpr.2]; exact hR.size
      · intro t; rw [hfold]; exact hpr.1 t
    refine ax_sound (r := some (W.heap.size + 1)) (m := m) (ds := []) (snd_sim P _) hT hmix x hx hax trivial hRel ?_
    intro e s3 H3 a3 ρ3 W3 hQ hR3 hs3
    cases e with
    | exit id => exact hQ.elim
    | ret => exact hQ.elim
    | normal =>
      obtain ⟨k1, k2, k3, k4, k5⟩ := hst hX hs3
      refine ⟨_, run_beginRound k1 (by rw [hrec]), ?_⟩
      have hMb := hR3.mem.put (o' := .loop { rc with state := .busy }) k1 rfl rfl
      refine ax_sound (r := some (W.heap.size + 1)) (m := m) (ds := []) (snd_sim P _) hT hmix y hy hQ trivial ⟨hMb, hR3.size, hR3.defers, hR3.slots⟩ ?_
      rintro e s4 H4 a4 ρ4 W4 ⟨rfl, rfl⟩ hR4 hs4
      have hl4 : W4.heap[W.heap.size + 1]? = some (.loop { rc with state := .busy }) := by
        have hlt := (Array.getElem?_eq_some_iff.1 k1).1
        rw [hs4.frame.block _ (by rw [World.putObj_size]; exact hlt) k3]
        exact World.putObj_heap_same hlt
      have hend := run_endRound (P := P) none hl4
      refine ⟨_, _, hend, ρ4, rfl, ?_⟩
      have e1 : ({ { rc with state := .busy } with state := if (none : Option Code).isNone then .ready else .done, pending := none } : Loop) = rc := by rw [hrec]; rfl
      rw [e1]
      exact hs3.trans (hs4.sand k1 rfl rfl k3)
  have hc := hI (W.heap.size + 1) X hst hround (m - 1) ρ W1 CAP s1.mem hX1 hC
  have hname' : ¬ fg.name = "runtime.NumGoroutine" := by simpa using hname
  have hbody' : ¬ fg.body = none := fun e => by rw [e] at hbody; cases hbody
  refine ⟨W.heap.size + 1, [{ target := .collected W.heap.size, args := #[] }], W1, { target := .fn (.func g) CAP, args := #[.func (.yield (W.heap.size + 1)) #[] #[]] }, W1, g,
    #[.func (.yield (W.heap.size + 1)) #[] #[]] ++ CAP, W1, ?_, ?_, fun _ _ => trivial, ?_, fun hd => by simp [FW, Fence.wide] at hd, ?_⟩
  · have := run_enterLoop_outer (P := P) (w := W) fn a.tmps ps x y
    rw [hW1, hW0, hrec]
    exact this
  · simp only [resolve, hX]
    simp [go_sem, Deferred.ofValue]
  · simp [invoke, callFunc, hfg, hname', hbody', program, Sem.run]
  · refine hc.mono ?_
    rintro e W2 ⟨V, ρ2, rfl, hs2⟩
    obtain ⟨k1, k2, k3, k4, k5⟩ := hst hX1 hs2
    have hend := run_endLoop (P := P) k1 (by rw [hrec]; simp)
    have e1 : rc.pending = none := by rw [hrec]
    rw [e1] at hend
    refine ⟨none, _, hend, ?_⟩
    have hs02 := (s0.trans s1).trans hs2
    have hfin := hs02.put_new (k := W.heap.size + 1) (o' := .loop { rc with state := .exhausted }) (by omega) k1 rfl rfl
    have hD : (W2.putObj (W.heap.size + 1) (.loop { rc with state := .exhausted })).heap[W.heap.size]? = some (.deferred (some [])) := (World.putObj_heap_other (by omega)).trans k2
    rw [e1] at hfin hD
    refine hn _ ρ2 _ _ ⟨hfin.mem, hR.size, rfl, fun t => (hR.slots t).mono k5⟩ ?_ hfin
    obtain ⟨ks, q1, q2, q3⟩ := hmk.step hfin
    refine ⟨W.heap.size :: ks, by rw [List.map_cons, ← q1, hR.defers]; rfl, List.nodup_cons.2 ⟨fun hmem => ?_, q2⟩, ?_⟩
    · obtain ⟨ks', p1, p2, p3⟩ := hmk
      have hkk : ks = ks' := by
        have : ks.map (fun k => ({ target := .collected k, args := #[] } : Deferred)) = ks'.map (fun k => { target := .collected k, args := #[] }) := by rw [← q1, ← p1]
        exact List.map_inj_right (fun x y h => by injection h with h _; injection h) |>.1 this
      subst hkk
      have := (Array.getElem?_eq_some_iff.1 (p3 _ hmem).2.1).1
      omega
    · intro k hk
      rcases List.mem_cons.1 hk with rfl | hk
      · exact ⟨hB, hD, k4⟩
      · exact q3 k hk
end
end Go.Fw
set_option linter.unusedSimpArgs false
set_option linter.unusedVariables false
namespace Go.Fw
open Go

section
variable {P : Program} {tt : TT} {m n : Nat}

theorem axT_leaf {c : Code} {B : Nat} {Q : APost} {QC : Exit → Act → World → Prop} {s : Slots} {H : Heap} {ρ : Inj} {a : Act} {W : World} {ds : List Deferred} (hT : TOK P tt) (hmix : P.follows .mixedOrders = true) (hk : codeOk n c = true) (h : Ax tt (SimF P) c Q s H) (hR : Rel n ds ρ s H a W) (hM : Marks B ds ρ H W)
    (hn : ∀ e s' H' a' ρ' W' ds', Q e s' H' → Rel n ds' ρ' s' H' a' W' → Marks B ds' ρ' H' W' → Step ρ H W ρ' H' W' → QC e.ex a' W') : c.wpIn (FW none) m P QC a W :=
  ax_sound (r := none) (ds := ds) (snd_sim P none) hT hmix c hk h trivial hR (fun e s' H' a' ρ' W' hQ hR' hs => hn e s' H' a' ρ' W' ds hQ hR' (hM.step hs) hs)

theorem axT_sound {B : Nat} (hT : TOK P tt) (hmix : P.follows .mixedOrders = true) : ∀ (c : Code) {Q : APost} {QC : Exit → Act → World → Prop} {s : Slots} {H : Heap} {ρ : Inj} {a : Act} {W : World} {ds : List Deferred}, codeOkT n c = true →
    AxT tt P c Q s H → Rel n ds ρ s H a W → B ≤ W.heap.size → Marks B ds ρ H W →
    (∀ e s' H' a' ρ' W' ds', Q e s' H' → Rel n ds' ρ' s' H' a' W' → Marks B ds' ρ' H' W' → Step ρ H W ρ' H' W' → QC e.ex a' W') → c.wpIn (FW none) m P QC a W := by
  intro c
  induction c with
  | skip => intro Q QC s H ρ a W ds hk h hR hB hM hn; exact axT_leaf hT hmix hk h hR hM hn
  | region id ops d => intro Q QC s H ρ a W ds hk h hR hB hM hn; exact axT_leaf hT hmix hk h hR hM hn
  | loop b _ => intro Q QC s H ρ a W ds hk h hR hB hM hn; exact axT_leaf hT hmix hk h hR hM hn
  | exit id => intro Q QC s H ρ a W ds hk h hR hB hM hn; exact axT_leaf hT hmix hk h hR hM hn
  | ret => intro Q QC s H ρ a W ds hk h hR hB hM hn; exact axT_leaf hT hmix hk h hR hM hn
  | seq x y ihx ihy =>
    intro Q QC s H ρ a W ds hk h hR hB hM hn
    simp only [codeOkT, Bool.and_eq_true] at hk
    refine wpIn_seq (ihx hk.1 h hR hB hM ?_)
    intro e s' H' a' ρ' W' ds' hQ hR' hM' hs
    cases e with
    | normal => exact ihy hk.2 hQ hR' (Nat.le_trans hB hs.frame.size) hM' (fun e s2 H2 a2 ρ2 W2 ds2 hQ2 hR2 hM2 hs2 => hn e s2 H2 a2 ρ2 W2 ds2 hQ2 hR2 hM2 (hs.trans hs2))
    | exit id => exact hn (.exit id) s' H' a' ρ' W' ds' hQ hR' hM' hs
    | ret => exact hn .ret s' H' a' ρ' W' ds' hQ hR' hM' hs
  | cond c t e iht ihe =>
    intro Q QC s H ρ a W ds hk h hR hB hM hn
    simp only [codeOkT, Bool.and_eq_true] at hk
    obtain ⟨b, hb, h⟩ := h
    have hc := ev_rel hR.slots hk.1.1
    rw [hb] at hc
    refine wpIn_cond hc.bool_inv ?_
    cases b with
    | true => exact iht hk.1.2 (by simpa using h) hR hB hM hn
    | false => exact ihe hk.2 (by simpa using h) hR hB hM hn
  | block id b ih =>
    intro Q QC s H ρ a W ds hk h hR hB hM hn
    refine wpIn_block (ih hk h hR hB hM ?_)
    intro e s' H' a' ρ' W' ds' hQ hR' hM' hs
    cases e with
    | normal => exact hn .normal s' H' a' ρ' W' ds' hQ hR' hM' hs
    | ret => exact hn .ret s' H' a' ρ' W' ds' hQ hR' hM' hs
    | exit id' =>
      simp only [AEx.ex, Exit.inBlock]
      simp only [AEx.inBlock] at hQ
      split at hQ
      · rename_i he; rw [if_pos he]; exact hn .normal s' H' a' ρ' W' ds' hQ hR' hM' hs
      · rename_i he; rw [if_neg he]; exact hn (.exit id') s' H' a' ρ' W' ds' hQ hR' hM' hs
  | rangeFunc f ps x y _ _ =>
    intro Q QC s H ρ a W ds hk h hR hB hM hn
    simp only [codeOkT, Bool.and_eq_true, List.all_eq_true, decide_eq_true_eq] at hk
    obtain ⟨g, cap, H', he, hI, hQ⟩ := h
    exact range_sound hT hmix hk.1.1.1 hk.1.1.2 hk.1.2 hk.2 he hI hR hB hM (fun a' ρ' W' ds' hR' hM' hs => hn .normal s H' a' ρ' W' ds' hQ hR' hM' hs)
  | scope b _ => intro Q QC s H ρ a W ds hk h; exact h.elim
  | label l => intro Q QC s H ρ a W ds hk h; exact h.elim
  | goto l => intro Q QC s H ρ a W ds hk h; exact h.elim
  | refuse w => intro Q QC s H ρ a W ds hk h; exact h.elim

theorem leave_sound {B : Nat} {fn : Func} {R : Ending → World → Prop} {H0 : Heap} {ρ0 : Inj} {W0 : World} (hB : B = W0.heap.size) (hT : TOK P tt) : ∀ (ks : List Nat) {ds : List Deferred} {s : Slots} {H : Heap} {ρ : Inj} {a : Act} {W : World} {vs : List Value}, ks.Nodup → (∀ k ∈ ks, B ≤ k ∧ W.heap[k]? = some (.deferred (some [])) ∧ ¬ Owned ρ H k) →
    Rel n ds ρ s H a W → Step ρ0 H0 W0 ρ H W → resL tt s H fn.results.toList = some vs → (∀ V ρ' W', VR ρ' (resV vs) V → Step ρ0 H0 W0 ρ' H W' → R (.returned V) W') →
    LeavesInM (FW none) m P fn a.tmps R (ks.map fun k => { target := .collected k, args := #[] }) .returning W := by
  intro ks
  induction ks with
  | nil =>
    intro ds s H ρ a W vs _ _ hR hs hv hn
    obtain ⟨V, h2, h3⟩ := results_sim (fn := fn) hT hR hv
    exact ⟨V, h2, hn V ρ W h3 hs⟩
  | cons k ks ih =>
    intro ds s H ρ a W vs hnd hk hR hs hv hn
    obtain ⟨g1, g2, g3⟩ := hk k (by simp)
    have hnd' := List.nodup_cons.1 hnd
    refine ⟨by simp, .inl ⟨k, _, rfl, run_takeDeferred g2, ?_⟩⟩
    have hs' := hs.put_new (k := k) (o' := .deferred none) (by omega) g2 rfl rfl
    refine ih hnd'.2 ?_ ⟨hs'.mem, hR.size, hR.defers, hR.slots⟩ hs' hv hn
    intro j hj
    obtain ⟨q1, q2, q3⟩ := hk j (by simp [hj])
    have hne : j ≠ k := by rintro rfl; exact hnd'.1 hj
    exact ⟨q1, (World.putObj_heap_other hne).trans q2, q3⟩

theorem sim_of_axT {f : FuncId} {fn : Func} {c : Code} {args : Array Value} {H H1 : Heap} {v : Value} (hT : TOK P tt) (hmix : P.follows .mixedOrders = true) (hf : P.funcs[f]? = some fn) (hb : fn.body = some c)
    (hname : (fn.name == "runtime.NumGoroutine") = false) (hok : codeOkT fn.ntmps c = true) (ha : args.size ≤ fn.ntmps)
    (h : AxT tt P c (retP tt fn (fun vs H' => resV vs = v ∧ H' = H1)) (ini args) H) : Sim P f args H v H1 := by
  refine ⟨⟨fn, hf, hname, by rw [hb]; rfl⟩, fun ρ W ARGS hM hA => ?_⟩
  refine (callsIn_wide (n := 0)).1 ?_
  have hR := rel_ini hM hA ha
  refine callsIn_of_wp_marks (F := FW none) hf hb trivial ?_ rfl
  refine axT_sound (B := W.heap.size) (m := 0) hT hmix c hok h hR (Nat.le_refl _) ⟨[], rfl, List.nodup_nil, fun k hk => by cases hk⟩ ?_
  intro e s' H' a' ρ' W' ds' hQ hR' hM' hs
  have fin : (∃ vs, resL tt s' H' fn.results.toList = some vs ∧ resV vs = v ∧ H' = H1) → LeavesInM (FW none) 0 P fn a'.tmps (fun e W' => ∃ V ρ', e = .returned V ∧ VR ρ' v V ∧ Step ρ H W ρ' H1 W') a'.defers .returning W' := by
    rintro ⟨vs, h1, rfl, rfl⟩
    obtain ⟨ks, q1, q2, q3⟩ := hM'
    rw [hR'.defers, q1]
    exact leave_sound rfl hT ks q2 q3 hR' hs h1 (fun V ρ2 W2 h2 h3 => ⟨V, ρ2, rfl, h2, h3⟩)
  cases e with
  | normal => exact fin hQ
  | ret => exact fin hQ
  | exit id => exact hQ.elim

theorem AxT_mono : ∀ (c : Code) {Q Q' : APost} {s : Slots} {H : Heap}, AxT tt P c Q s H → (∀ e s H, Q e s H → Q' e s H) → AxT tt P c Q' s H := by
  intro c
  induction c with
  | skip => intro Q Q' s H h hQ; exact Ax_mono .skip h hQ
  | region id ops d => intro Q Q' s H h hQ; exact Ax_mono (.region id ops d) h hQ
  | loop b _ => intro Q Q' s H h hQ; exact Ax_mono (.loop b) h hQ
  | exit id => intro Q Q' s H h hQ; exact Ax_mono (.exit id) h hQ
  | ret => intro Q Q' s H h hQ; exact Ax_mono .ret h hQ
  | seq x y ihx ihy =>
    intro Q Q' s H h hQ
    refine ihx h ?_
    intro e s' H' h'
    cases e with
    | normal => exact ihy h' hQ
    | exit id => exact hQ _ _ _ h'
    | ret => exact hQ _ _ _ h'
  | cond c t e iht ihe =>
    intro Q Q' s H h hQ
    obtain ⟨b, hb, h⟩ := h
    refine ⟨b, hb, ?_⟩
    cases b with
    | true => exact iht (by simpa using h) hQ
    | false => exact ihe (by simpa using h) hQ
  | block id b ih =>
    intro Q Q' s H h hQ
    refine ih h ?_
    intro e s' H' h'
    cases e with
    | normal => exact hQ _ _ _ h'
    | ret => exact hQ _ _ _ h'
    | exit id' =>
      simp only [AEx.inBlock] at h' ⊢
      split at h'
      · rename_i he; rw [if_pos he]; exact hQ _ _ _ h'
      · rename_i he; rw [if_neg he]; exact hQ _ _ _ h'
  | rangeFunc f ps x y _ _ =>
    intro Q Q' s H h hQ
    obtain ⟨g, cap, H', h1, h2, h3⟩ := h
    exact ⟨g, cap, H', h1, h2, hQ _ _ _ h3⟩
  | scope b _ => intro Q Q' s H h; exact h.elim
  | label l => intro Q Q' s H h; exact h.elim
  | goto l => intro Q Q' s H h; exact h.elim
  | refuse w => intro Q Q' s H h; exact h.elim
theorem axT_path : ∀ (c : Code) {Q : APost} {s : Slots} {H : Heap}, AxT tt P c Q s H → ∃ e s' H', AxT tt P c (exactly e s' H') s H ∧ Q e s' H' := by
  intro c
  induction c with
  | skip => intro Q s H h; exact ax_path .skip h
  | region id ops d => intro Q s H h; exact ax_path (.region id ops d) h
  | loop b _ => intro Q s H h; exact ax_path (.loop b) h
  | exit id => intro Q s H h; exact ax_path (.exit id) h
  | ret => intro Q s H h; exact ax_path .ret h
  | seq x y ihx ihy =>
    intro Q s H h
    obtain ⟨e, s1, H1, h1, h2⟩ := ihx h
    cases e with
    | normal =>
      obtain ⟨e2, s2, H2, h3, h4⟩ := ihy h2
      refine ⟨e2, s2, H2, AxT_mono x h1 ?_, h4⟩
      rintro e s' H' ⟨rfl, rfl, rfl⟩
      exact h3
    | exit id => exact ⟨.exit id, s1, H1, AxT_mono x h1 (by rintro e s' H' ⟨rfl, rfl, rfl⟩; exact ⟨rfl, rfl, rfl⟩), h2⟩
    | ret => exact ⟨.ret, s1, H1, AxT_mono x h1 (by rintro e s' H' ⟨rfl, rfl, rfl⟩; exact ⟨rfl, rfl, rfl⟩), h2⟩
  | cond c t e iht ihe =>
    intro Q s H h
    obtain ⟨b, hb, h⟩ := h
    cases b with
    | true =>
      obtain ⟨e1, s1, H1, h1, h2⟩ := iht (by simpa using h)
      exact ⟨e1, s1, H1, ⟨true, hb, by simpa using h1⟩, h2⟩
    | false =>
      obtain ⟨e1, s1, H1, h1, h2⟩ := ihe (by simpa using h)
      exact ⟨e1, s1, H1, ⟨false, hb, by simpa using h1⟩, h2⟩
  | block id b ih =>
    intro Q s H h
    obtain ⟨e, s1, H1, h1, h2⟩ := ih h
    cases e with
    | normal => exact ⟨.normal, s1, H1, AxT_mono b h1 (by rintro e s' H' ⟨rfl, rfl, rfl⟩; exact ⟨rfl, rfl, rfl⟩), h2⟩
    | ret => exact ⟨.ret, s1, H1, AxT_mono b h1 (by rintro e s' H' ⟨rfl, rfl, rfl⟩; exact ⟨rfl, rfl, rfl⟩), h2⟩
    | exit id' =>
      simp only [AEx.inBlock] at h2
      by_cases he : id' = id
      · rw [if_pos he] at h2
        refine ⟨.normal, s1, H1, AxT_mono b h1 ?_, h2⟩
        rintro e s' H' ⟨rfl, rfl, rfl⟩
        simp only [AEx.inBlock]; rw [if_pos he]; exact ⟨rfl, rfl, rfl⟩
      · rw [if_neg he] at h2
        refine ⟨.exit id', s1, H1, AxT_mono b h1 ?_, h2⟩
        rintro e s' H' ⟨rfl, rfl, rfl⟩
        simp only [AEx.inBlock]; rw [if_neg he]; exact ⟨rfl, rfl, rfl⟩
  | rangeFunc f ps x y _ _ =>
    intro Q s H h
    obtain ⟨g, cap, H', h1, h2, h3⟩ := h
    exact ⟨.normal, s, H', ⟨g, cap, H', h1, h2, rfl, rfl, rfl⟩, h3⟩
  | scope b _ => intro Q s H h; exact h.elim
  | label l => intro Q s H h; exact h.elim
  | goto l => intro Q s H h; exact h.elim
  | refuse w => intro Q s H h; exact h.elim
theorem sim_exT {f : FuncId} {fn : Func} {c : Code} {args : Array Value} {H : Heap} {R : Value → Heap → Prop} (hT : TOK P tt) (hmix : P.follows .mixedOrders = true) (hf : P.funcs[f]? = some fn) (hb : fn.body = some c)
    (hname : (fn.name == "runtime.NumGoroutine") = false) (hok : codeOkT fn.ntmps c = true) (ha : args.size ≤ fn.ntmps)
    (h : AxT tt P c (retP tt fn (fun vs H' => R (resV vs) H')) (ini args) H) : ∃ v H', Sim P f args H v H' ∧ R v H' := by
  obtain ⟨e, s1, H1, h1, h2⟩ := axT_path c h
  have key : ∃ vs, resL tt s1 H1 fn.results.toList = some vs ∧ R (resV vs) H1 ∧ (e = .normal ∨ e = .ret) := by
    cases e with
    | normal => obtain ⟨vs, a, b⟩ := h2; exact ⟨vs, a, b, .inl rfl⟩
    | ret => obtain ⟨vs, a, b⟩ := h2; exact ⟨vs, a, b, .inr rfl⟩
    | exit id => exact h2.elim
  obtain ⟨vs, a, b, he⟩ := key
  refine ⟨resV vs, H1, sim_of_axT hT hmix hf hb hname hok ha (AxT_mono c h1 ?_), b⟩
  rintro e' s' H' ⟨rfl, rfl, rfl⟩
  rcases he with rfl | rfl
  · exact ⟨vs, a, rfl, rfl⟩
  · exact ⟨vs, a, rfl, rfl⟩

/-! ### walking -/
section
variable {Q : APost} {s : Slots} {H : Heap}
theorem wt_seq {a b : Code} : AxT tt P (.seq a b) Q s H = AxT tt P a (AEx.thn (AxT tt P b Q) Q) s H := rfl
theorem wt_block {id : Nat} {b : Code} : AxT tt P (.block id b) Q s H = AxT tt P b (AEx.inBlock id Q) s H := rfl
theorem wt_region {id : Nat} {ops : Array Oper} {d : Bool} : AxT tt P (.region id ops d) Q s H = Ax tt (SimF P) (.region id ops d) Q s H := rfl
theorem wt_loop {b : Code} : AxT tt P (.loop b) Q s H = Ax tt (SimF P) (.loop b) Q s H := rfl
theorem wt_skip : AxT tt P .skip Q s H = Q .normal s H := rfl
theorem wt_exit {id : Nat} : AxT tt P (.exit id) Q s H = Q (.exit id) s H := rfl
theorem wt_ret : AxT tt P .ret Q s H = Q .ret s H := rfl
/-- conditions that are decided -/
def AxCT (tt : TT) (P : Program) (x y : Code) (Q : APost) (s : Slots) (H : Heap) (v : Value) : Prop := ∃ b, v = .bool b ∧ if b = true then AxT tt P x Q s H else AxT tt P y Q s H
theorem wt_cond {c : Operand} {x y : Code} : AxT tt P (.cond c x y) Q s H = AxCT tt P x y Q s H (ev s c) := rfl
theorem axCT_t {x y : Code} : AxCT tt P x y Q s H (.bool true) = AxT tt P x Q s H := by
  apply propext
  constructor
  · rintro ⟨b, hb, h⟩
    injection hb with hb
    subst hb
    simpa using h
  · intro h; exact ⟨true, rfl, by simpa using h⟩
theorem axCT_f {x y : Code} : AxCT tt P x y Q s H (.bool false) = AxT tt P y Q s H := by
  apply propext
  constructor
  · rintro ⟨b, hb, h⟩
    injection hb with hb
    subst hb
    simpa using h
  · intro h; exact ⟨false, rfl, by simpa using h⟩
end
end
end Go.Fw
set_option linter.unusedSimpArgs false
set_option linter.unusedVariables false
namespace Go.Fw
open Go

structure ElAt (k : Nat) (H : Heap) (b i c : Nat) (l : List (List Value)) : Prop where
  cap : c = 0 ∨ l.length ≤ c
  pos : 0 < k
  all : ∀ x ∈ l, x.length = k
  blk : ∃ B, H[b]? = some B ∧ B.esz = k ∧ i + k * l.length ≤ B.cells.length ∧ (B.cells.drop i).take (k * l.length) = l.flatten
  cell : l.flatten.all isCell = true
def El (k : Nat) (H : Heap) (v : Value) (l : List (List Value)) : Prop := (v = .slice none 0 0 ∧ l = []) ∨ ∃ b i c, v = .slice (some ⟨b, i, none⟩) l.length c ∧ ElAt k H b i c l

theorem flatten_len {k : Nat} {l : List (List Value)} (h : ∀ x ∈ l, x.length = k) : l.flatten.length = k * l.length := by
  induction l with
  | nil => simp
  | cons x l ih =>
    simp only [List.flatten_cons, List.length_append, List.length_cons]
    rw [ih (fun y hy => h y (by simp [hy])), h x (by simp), Nat.mul_add]; omega
theorem flatten_at {k : Nat} : ∀ {l : List (List Value)} (h : ∀ x ∈ l, x.length = k) {j : Nat} (hj : j < l.length), (l.flatten.drop (j * k)).take k = l[j] := by
  intro l
  induction l with
  | nil => intro h j hj; simp at hj
  | cons x l ih =>
    intro h j hj
    cases j with
    | zero => simp [h x (by simp)]
    | succ j =>
      have hx := h x (by simp)
      rw [List.flatten_cons, List.drop_append, List.drop_eq_nil_of_le (by rw [hx, Nat.add_mul]; omega), List.nil_append]
      have e : (j + 1) * k - x.length = j * k := by rw [hx, Nat.add_mul]; omega
      rw [e]
      exact ih (fun y hy => h y (by simp [hy])) (by simpa using hj)
theorem ElAt.rd {k : Nat} {H : Heap} {b i c : Nat} {l : List (List Value)} (h : ElAt k H b i c l) {j : Nat} (hj : j < l.length) : Fw.rd H b (i + j * k) k = some l[j] := by
  obtain ⟨B, h1, h2, h3, h4⟩ := h.blk
  have hk := h.pos
  have hle : (j + 1) * k ≤ k * l.length := by rw [Nat.mul_comm k]; exact Nat.mul_le_mul_right _ hj
  rw [Nat.add_mul] at hle
  unfold Fw.rd
  rw [h1]
  simp only
  rw [if_pos (by omega)]
  congr 1
  rw [← flatten_at h.all hj, ← h4, List.drop_take, List.take_take, List.drop_drop]
  congr 1
  omega
theorem ElAt.rdAll {k : Nat} {H : Heap} {b i c : Nat} {l : List (List Value)} (h : ElAt k H b i c l) : Fw.rd H b i (l.length * k) = some l.flatten := by
  obtain ⟨B, h1, h2, h3, h4⟩ := h.blk
  have hk := h.pos
  unfold Fw.rd
  rw [h1]
  simp only
  rw [Nat.mul_comm k] at h3 h4
  rw [if_pos (by omega), h4]
theorem ElAt.app {k : Nat} {H : Heap} {b i c : Nat} {l : List (List Value)} (h : ElAt k H b i c l) (G : Heap) : ElAt k (H ++ G) b i c l := by
  obtain ⟨B, h1, h2⟩ := h.blk
  have : b < H.length := by rcases List.getElem?_eq_some_iff.1 h1 with ⟨h, _⟩; exact h
  exact ⟨h.cap, h.pos, h.all, ⟨B, by rw [List.getElem?_append_left this]; exact h1, h2⟩, h.cell⟩
theorem El.app {k : Nat} {H : Heap} {v : Value} {l : List (List Value)} (h : El k H v l) (G : Heap) : El k (H ++ G) v l := by
  rcases h with h | ⟨b, i, c, h1, h2⟩
  · exact .inl h
  · exact .inr ⟨b, i, c, h1, h2.app G⟩
theorem El.ext {k : Nat} {H H' : Heap} {v : Value} {l : List (List Value)} (h : El k H v l) (e : Ext H H') : El k H' v l := by obtain ⟨G, rfl⟩ := e; exact h.app G
theorem ElAt.ext {k : Nat} {H H' : Heap} {b i c : Nat} {l : List (List Value)} (h : ElAt k H b i c l) (e : Ext H H') : ElAt k H' b i c l := by obtain ⟨G, rfl⟩ := e; exact h.app G
theorem ElAt.lt {k : Nat} {H : Heap} {b i c : Nat} {l : List (List Value)} (h : ElAt k H b i c l) : b < H.length := by
  obtain ⟨B, h1, _⟩ := h.blk
  rcases List.getElem?_eq_some_iff.1 h1 with ⟨h, _⟩; exact h
theorem ElAt.set {k : Nat} {H : Heap} {b i c : Nat} {l : List (List Value)} (h : ElAt k H b i c l) {b' : Nat} (hb : b ≠ b') (B : Blk) : ElAt k (H.set b' B) b i c l := by
  obtain ⟨X, h1, h2⟩ := h.blk
  exact ⟨h.cap, h.pos, h.all, ⟨X, by rw [List.getElem?_set_ne (Ne.symm hb)]; exact h1, h2⟩, h.cell⟩
theorem El.at {k : Nat} {H : Heap} {v : Value} {l : List (List Value)} (h : El k H v l) (h0 : l ≠ []) : ∃ b i c, v = .slice (some ⟨b, i, none⟩) l.length c ∧ ElAt k H b i c l := by
  rcases h with ⟨_, h⟩ | h
  · exact absurd h h0
  · exact h
theorem El.len {k : Nat} {tt : TT} {H : Heap} {v : Value} {l : List (List Value)} (h : El k H v l) {t e : TypeId} {sz by_ : Nat} {z : Value} {q : Option (List TD)} (ht : tt t = some ⟨.slice e, sz, by_, z, q⟩) : aLen tt [t] v = some (.int .i64 (l.length : Nat)) := by
  rcases h with ⟨rfl, rfl⟩ | ⟨b, i, c, rfl, h⟩ <;> simp [aLen, ht]

/-- a row of one's own -/
structure Own (k : Nat) (T : Heap) (b : Nat) (l : List (List Value)) : Prop where
  pos : 0 < k
  all : ∀ x ∈ l, x.length = k
  blk : T[b]? = some ⟨l.flatten, k, true⟩
  cell : l.flatten.all isCell = true
theorem Own.at {k : Nat} {T : Heap} {b : Nat} {l : List (List Value)} (h : Own k T b l) {c : Nat} (hc : c = 0 ∨ l.length ≤ c) : ElAt k T b 0 c l :=
  ⟨hc, h.pos, h.all, ⟨_, h.blk, rfl, by simp only [flatten_len h.all]; omega, by simp only [List.drop_zero]; exact List.take_of_length_le (by rw [flatten_len h.all]; exact Nat.le_refl _)⟩, h.cell⟩
theorem Own.lt {k : Nat} {T : Heap} {b : Nat} {l : List (List Value)} (h : Own k T b l) : b < T.length := by rcases List.getElem?_eq_some_iff.1 h.blk with ⟨h, _⟩; exact h
theorem Own.app {k : Nat} {T : Heap} {b : Nat} {l : List (List Value)} (h : Own k T b l) (G : Heap) : Own k (T ++ G) b l :=
  ⟨h.pos, h.all, by rw [List.getElem?_append_left h.lt]; exact h.blk, h.cell⟩
theorem Own.other {k : Nat} {T : Heap} {b b' : Nat} {l : List (List Value)} (h : Own k T b l) (hb : b' ≠ b) (B : Blk) : Own k (T.set b' B) b l :=
  ⟨h.pos, h.all, by rw [List.getElem?_set_ne hb]; exact h.blk, h.cell⟩
theorem Own.new {k : Nat} (T : Heap) {l : List (List Value)} (hk : 0 < k) (ha : ∀ x ∈ l, x.length = k) (hc : l.flatten.all isCell = true) : Own k (T ++ [⟨l.flatten, k, true⟩]) T.length l :=
  ⟨hk, ha, by simp, hc⟩
theorem all_app {k : Nat} {l m : List (List Value)} (h : ∀ x ∈ l, x.length = k) (h' : ∀ x ∈ m, x.length = k) : ∀ x ∈ l ++ m, x.length = k := by
  intro x hx
  rcases List.mem_append.1 hx with hx | hx
  · exact h x hx
  · exact h' x hx
section
variable {tt : TT} {T : Heap} {t e : TypeId} {sz by_ k : Nat} {z : Value} {q : Option (List TD)} {d : TD} {ez : Value} {eq : Option (List TD)} {eb : Nat} {l m : List (List Value)} {b bx ix cx : Nat}
theorem append_own (ht : tt t = some ⟨.slice e, sz, by_, z, q⟩) (he : tt e = some ⟨d, k, eb, ez, eq⟩) (hez : ez.cells.size = k) (hb1 : 0 < eb) (hb2 : eb ≤ 1048576)
    (h : Own k T b l) (hx : ElAt k T bx ix cx m) (h0 : m ≠ []) (hs : (l.length + m.length) * eb ≤ 1099511627776) :
    aAppend tt T [t, t] (.slice (some ⟨b, 0, none⟩) l.length 0) (.slice (some ⟨bx, ix, none⟩) m.length cx) = some (.slice (some ⟨T.length, 0, none⟩) (l.length + m.length) 0, T.set b deadBlk ++ [⟨(l ++ m).flatten, k, true⟩]) := by
  have hold := (h.at (c := 0) (.inl rfl)).rdAll
  have hnew := hx.rdAll
  have hm : 0 < m.length := List.length_pos_iff.2 h0
  have hlen := flatten_len hx.all
  unfold aAppend
  simp only [ht, he, srcLen, srcKind, srcCells, hnew, hold, h.blk]
  rw [if_pos ⟨h.pos, trivial, hb1, hb2, fun _ => hez⟩, if_pos ⟨by rw [hlen, Nat.mul_comm], hx.cell⟩, if_neg (by omega), if_pos hs, if_neg (by simp)]
  simp
theorem append_none (ht : tt t = some ⟨.slice e, sz, by_, z, q⟩) (he : tt e = some ⟨d, k, eb, ez, eq⟩) (hez : ez.cells.size = k) (hb1 : 0 < eb) (hb2 : eb ≤ 1048576)
    (hx : ElAt k T bx ix cx m) (h0 : m ≠ []) (hs : m.length * eb ≤ 1099511627776) :
    aAppend tt T [t, t] (.slice none 0 0) (.slice (some ⟨bx, ix, none⟩) m.length cx) = some (.slice (some ⟨T.length, 0, none⟩) m.length 0, T ++ [⟨m.flatten, k, true⟩]) := by
  have hnew := hx.rdAll
  have hm : 0 < m.length := List.length_pos_iff.2 h0
  have hlen := flatten_len hx.all
  unfold aAppend
  simp only [ht, he, srcLen, srcKind, srcCells, hnew]
  rw [if_pos ⟨hx.pos, trivial, hb1, hb2, fun _ => hez⟩, if_pos ⟨by rw [hlen, Nat.mul_comm], hx.cell⟩, if_neg (by omega), if_pos hs]
end
/-- writing one element -/
theorem splice_el {k : Nat} : ∀ {l : List (List Value)} {x : List Value} (h : ∀ y ∈ l, y.length = k) (hx : x.length = k) {j : Nat} (hj : j < l.length), splice l.flatten (j * k) x = (l.set j x).flatten := by
  intro l x
  induction l with
  | nil => intro h hx j hj; simp at hj
  | cons y l ih =>
    intro h hx j hj
    have hy := h y (by simp)
    cases j with
    | zero =>
      unfold splice
      simp [hy, hx]
    | succ j =>
      have := ih (fun y hy => h y (by simp [hy])) hx (j := j) (by simpa using hj)
      unfold splice at this ⊢
      have e : (j + 1) * k = y.length + j * k := by rw [hy, Nat.add_mul]; omega
      have e2 : y.length + j * k + x.length = y.length + (j * k + x.length) := by omega
      simp only [List.flatten_cons, List.set_cons_succ]
      rw [e, List.take_length_add_append, e2, List.drop_length_add_append, ← this]
      simp
theorem Own.wr {k : Nat} {T : Heap} {b : Nat} {l : List (List Value)} (h : Own k T b l) {j : Nat} (hj : j < l.length) {x : List Value} (hx : x.length = k) (hc : x.all isCell = true) : Fw.wr T b (j * k) x = some (T.set b ⟨(l.set j x).flatten, k, true⟩) := by
  rw [wr_eq, h.blk]
  simp only
  have hle : (j + 1) * k ≤ k * l.length := by rw [Nat.mul_comm k]; exact Nat.mul_le_mul_right _ hj
  rw [Nat.add_mul] at hle
  rw [if_pos ⟨trivial, by rw [flatten_len h.all, hx]; omega, by rw [← allC_eq]; exact hc⟩, splice_el h.all hx hj]
theorem set_all {k : Nat} {l : List (List Value)} (h : ∀ y ∈ l, y.length = k) {j : Nat} {x : List Value} (hx : x.length = k) : ∀ y ∈ l.set j x, y.length = k := by
  intro y hy
  rcases List.mem_or_eq_of_mem_set hy with hy | rfl
  · exact h y hy
  · exact hx
theorem flat_cell {l : List (List Value)} : l.flatten.all isCell = true ↔ ∀ x ∈ l, x.all isCell = true := by
  simp only [List.all_eq_true, List.mem_flatten]
  constructor
  · intro h x hx y hy; exact h y ⟨x, hx, hy⟩
  · rintro h y ⟨x, hx, hy⟩; exact h x hx y hy
theorem Own.set {k : Nat} {T : Heap} {b : Nat} {l : List (List Value)} (h : Own k T b l) {j : Nat} {x : List Value} (hx : x.length = k) (hc : x.all isCell = true) : Own k (T.set b ⟨(l.set j x).flatten, k, true⟩) b (l.set j x) := by
  refine ⟨h.pos, set_all h.all hx, by rw [List.getElem?_set_self h.lt], ?_⟩
  rw [flat_cell]
  intro y hy
  rcases List.mem_or_eq_of_mem_set hy with hy | rfl
  · exact flat_cell.1 h.cell y hy
  · exact hc

/-! ### rows of rotations -/
def RL (H : Heap) (v : Value) (l : List RR) : Prop := El 6 H v (l.map RR.cells)
theorem RR.cells_len (r : RR) : r.cells.length = 6 := rfl
theorem RR.cells_cell (r : RR) : r.cells.all isCell = true := rfl
theorem RR.cells_all (l : List RR) : ∀ x ∈ l.map RR.cells, x.length = 6 := by
  intro x hx
  obtain ⟨r, _, rfl⟩ := List.mem_map.1 hx
  rfl
theorem RR.cells_ok (l : List RR) : (l.map RR.cells).flatten.all isCell = true := by
  rw [flat_cell]
  intro x hx
  obtain ⟨r, _, rfl⟩ := List.mem_map.1 hx
  rfl
theorem RL.ext {H H' : Heap} {v : Value} {l : List RR} (h : RL H v l) (e : Ext H H') : RL H' v l := El.ext h e
theorem RL.len {tt : TT} {H : Heap} {v : Value} {l : List RR} (h : RL H v l) {t e : TypeId} {sz by_ : Nat} {z : Value} {q : Option (List TD)} (ht : tt t = some ⟨.slice e, sz, by_, z, q⟩) : aLen tt [t] v = some (.int .i64 (l.length : Nat)) := by
  have := El.len h ht
  simpa using this
theorem RL.at {H : Heap} {v : Value} {l : List RR} (h : RL H v l) (h0 : l ≠ []) : ∃ b i c, v = .slice (some ⟨b, i, none⟩) l.length c ∧ ElAt 6 H b i c (l.map RR.cells) := by
  obtain ⟨b, i, c, h1, h2⟩ := El.at h (by simpa using h0)
  exact ⟨b, i, c, by simpa using h1, h2⟩
theorem ElAt.rdR {H : Heap} {b i c : Nat} {l : List RR} (h : ElAt 6 H b i c (l.map RR.cells)) {j : Nat} (hj : j < l.length) : Fw.rd H b (i + j * 6) 6 = some l[j].cells := by
  have := h.rd (j := j) (by simpa using hj)
  simpa using this
/-- an own row of rotations -/
def OwnR (T : Heap) (b : Nat) (l : List RR) : Prop := Own 6 T b (l.map RR.cells)
theorem OwnR.rl {T : Heap} {b : Nat} {l : List RR} (h : OwnR T b l) : RL T (.slice (some ⟨b, 0, none⟩) l.length 0) l := by
  have := h.at (c := 0) (.inl rfl)
  exact .inr ⟨b, 0, 0, by simp, this⟩
theorem OwnR.new (T : Heap) (l : List RR) : OwnR (T ++ [⟨(l.map RR.cells).flatten, 6, true⟩]) T.length l := Own.new T (by decide) (RR.cells_all l) (RR.cells_ok l)
end Go.Fw
set_option linter.unusedSimpArgs false
set_option linter.unusedVariables false
namespace Go.Fw
open Go

section
variable {tt : TT} {S : ACall} {ops : Array Oper} {K : Slots → Heap → Prop} {l : List Oper} {s : Slots} {H : Heap} {dst : Option Tmp} {ty : TypeId} {pos : String} {af : Array Edge}
/-- a call of yield -/
theorem wl_yield {f : Operand} {args : Array Operand} {tys : Array TypeId} {v : Value} {H' : Heap} (i : Nat) (as : Array Value) (hf : ev s f = .func (.yield i) #[] #[]) (ha : args.map (ev s) = as) (hS : S (.yield i) as H v H')
    (k : AxL tt S false ops K l (s.put dst v) H') : AxL tt S false ops K (⟨dst, .call { callee := .value f, args := args, argTypes := tys }, ty, pos, af, none⟩ :: l) s H :=
  ⟨_, H', by unfold AOp; rw [if_pos (show wantedA ops s _ = true from rfl)]; unfold AStep; exact .inr ⟨rfl, i, v, hf, by rw [ha]; exact hS, rfl⟩, k⟩
end
/-- heaps that follow each other -/
def chainH (add : Nat → Blk) (nxt : Nat → Heap → Heap) (H : Heap) : Nat → Heap
  | 0 => H
  | i + 1 => nxt i (chainH add nxt H i ++ [add i])
theorem chain_ex {Inv : Nat → Heap → Prop} {Y : Nat → Heap → Heap → Prop} {n : Nat} {H : Heap} (add : Nat → Blk) (h0 : Inv 0 H) (happ : ∀ i T B, Inv i T → Inv i (T ++ [B])) (hY : ∀ i T, i < n → Inv i T → ∃ T', Y i T T' ∧ Inv (i + 1) T') :
    ∃ G : Nat → Heap, G 0 = H ∧ (∀ i, i ≤ n → Inv i (G i)) ∧ ∀ i, i < n → Y i (G i ++ [add i]) (G (i + 1)) := by
  obtain ⟨nxt, hn⟩ : ∃ nxt : Nat → Heap → Heap, ∀ i T, i < n → Inv i T → Y i T (nxt i T) ∧ Inv (i + 1) (nxt i T) := by
    refine ⟨fun i T => Classical.epsilon fun T' => Y i T T' ∧ Inv (i + 1) T', fun i T hi h => ?_⟩
    exact Classical.epsilon_spec (p := fun T' => Y i T T' ∧ Inv (i + 1) T') (hY i T hi h)
  have hinv : ∀ i, i ≤ n → Inv i (chainH add nxt H i) := by
    intro i
    induction i with
    | zero => intro _; exact h0
    | succ i ih => intro hi; exact (hn i _ (by omega) (happ i _ _ (ih (by omega)))).2
  exact ⟨chainH add nxt H, rfl, hinv, fun i hi => (hn i _ hi (happ i _ _ (hinv i (by omega)))).1⟩
end Go.Fw
set_option linter.unusedSimpArgs false
set_option linter.unusedVariables false
namespace Go.Fw
open Go

/-- an order on some elements -/
structure Tot {α : Type} (ok : α → Prop) (le : α → α → Prop) : Prop where
  refl : ∀ x, ok x → le x x
  trans : ∀ x y z, ok x → ok y → ok z → le x y → le y z → le x z
  total : ∀ x y, ok x → ok y → le x y ∨ le y x
  anti : ∀ x y, ok x → ok y → le x y → le y x → x = y
section
variable {α : Type} {ok : α → Prop} {le : α → α → Prop}
/-- the elements up to i are in order, except that at j, which is not greater than those behind it -/
def InsI (le : α → α → Prop) (L : List α) (a i j : Nat) : Prop := ∀ p q, a ≤ p → p < q → q ≤ i → q ≠ j → ∀ (hp : p < L.length) (hq : q < L.length), le L[p] L[q]
/-- the first n are in order -/
def SrtTo (le : α → α → Prop) (L : List α) (a n : Nat) : Prop := ∀ p q, a ≤ p → p < q → q < n → ∀ (hp : p < L.length) (hq : q < L.length), le L[p] L[q]
theorem SrtTo.one (L : List α) {a n : Nat} (h : n ≤ a + 1) : SrtTo le L a n := fun p q h0 h1 h2 => by omega
theorem SrtTo.ins {L : List α} {a i : Nat} (h : SrtTo le L a i) : InsI le L a i i := fun p q h0 h1 h2 h3 hp hq => h p q h0 h1 (by omega) hp hq
theorem SrtTo.pairwise {L : List α} (h : SrtTo le L 0 L.length) : L.Pairwise le := by
  rw [List.pairwise_iff_getElem]
  intro p q hp hq hpq
  exact h p q (Nat.zero_le _) hpq hq hp hq
theorem InsI.zero {L : List α} {a i : Nat} (h : InsI le L a i a) : SrtTo le L a (i + 1) := fun p q h0 h1 h2 hp hq => h p q h0 h1 (by omega) (by omega) hp hq
theorem InsI.stop (T : Tot ok le) {L : List α} {a i j : Nat} (hok : ∀ x ∈ L, ok x) (h : InsI le L a i j) (hj : a < j) (hi : j ≤ i) (hjl : j < L.length) (hle : le (L[j - 1]'(by omega)) L[j]) : SrtTo le L a (i + 1) := by
  intro p q h0 h1 h2 hp hq
  by_cases hqj : q = j
  · subst hqj
    by_cases hp1 : p = q - 1
    · subst hp1; exact hle
    · exact T.trans _ _ _ (hok _ (List.getElem_mem hp)) (hok _ (List.getElem_mem (by omega))) (hok _ (List.getElem_mem hq)) (h p (q - 1) h0 (by omega) (by omega) (by omega) hp (by omega)) hle
  · exact h p q h0 h1 (by omega) hqj hp hq
/-- an exchange of neighbours -/
def swp (L : List α) (j : Nat) (h : j + 1 < L.length) : List α := (L.set (j + 1) L[j]).set j L[j + 1]
theorem swp_len (L : List α) (j : Nat) (h : j + 1 < L.length) : (swp L j h).length = L.length := by simp [swp]
theorem swp_perm (L : List α) (j : Nat) (h : j + 1 < L.length) : (swp L j h).Perm L := List.set_set_perm (i := j + 1) (j := j) h (by omega)
theorem swp_at (L : List α) (j : Nat) (h : j + 1 < L.length) (q : Nat) (hq : q < L.length) : (swp L j h)[q]'(by rw [swp_len]; exact hq) = if q = j then L[j + 1] else if q = j + 1 then L[j] else L[q] := by
  unfold swp
  rw [List.getElem_set]
  by_cases h1 : j = q
  · rw [if_pos h1, if_pos h1.symm]
  · rw [if_neg h1, if_neg (Ne.symm h1), List.getElem_set]
    by_cases h2 : j + 1 = q
    · rw [if_pos h2, if_pos h2.symm]
    · rw [if_neg h2, if_neg (Ne.symm h2)]
theorem InsI.step {L : List α} {a i j : Nat} (h : InsI le L a i (j + 1)) (haj : a ≤ j) (hjl : j + 1 < L.length) (hi : j + 1 ≤ i) (hlt : le L[j + 1] L[j]) : InsI le (swp L j hjl) a i j := by
  intro p q h0 h1 h2 h3 hp hq
  rw [swp_len] at hp hq
  rw [swp_at L j hjl p hp, swp_at L j hjl q hq, if_neg h3]
  by_cases hq1 : q = j + 1
  · rw [if_pos hq1]
    by_cases hp1 : p = j
    · rw [if_pos hp1]; exact hlt
    · rw [if_neg hp1, if_neg (by omega)]
      exact h p j h0 (by omega) (by omega) (by omega) hp (by omega)
  · rw [if_neg hq1]
    by_cases hp1 : p = j
    · rw [if_pos hp1]
      exact h (j + 1) q (by omega) (by omega) h2 hq1 hjl hq
    · rw [if_neg hp1]
      by_cases hp2 : p = j + 1
      · rw [if_pos hp2]
        exact h j q haj (by omega) h2 hq1 (by omega) hq
      · rw [if_neg hp2]
        exact h p q h0 h1 h2 hq1 hp hq
/-- a row that was turned within a..b only -/
structure Within (L0 L : List α) (a b : Nat) : Prop where
  perm : L.Perm L0
  out : ∀ q, (q < a ∨ b ≤ q) → L[q]? = L0[q]?
theorem Within.refl (L : List α) (a b : Nat) : Within L L a b := ⟨.refl _, fun _ _ => rfl⟩
theorem Within.len {L0 L : List α} {a b : Nat} (h : Within L0 L a b) : L.length = L0.length := h.perm.length_eq
theorem Within.trans {L0 L1 L2 : List α} {a b : Nat} (h : Within L0 L1 a b) (h2 : Within L1 L2 a b) : Within L0 L2 a b := ⟨h2.perm.trans h.perm, fun q hq => (h2.out q hq).trans (h.out q hq)⟩
theorem Within.mono {L0 L : List α} {a b a' b' : Nat} (h : Within L0 L a b) (h1 : a' ≤ a) (h2 : b ≤ b') : Within L0 L a' b' := ⟨h.perm, fun q hq => h.out q (by omega)⟩
theorem Within.swp (L : List α) {a b : Nat} (j : Nat) (h : j + 1 < L.length) (h1 : a ≤ j) (h2 : j + 1 < b) : Within L (swp L j h) a b := by
  refine ⟨swp_perm L j h, fun q hq => ?_⟩
  unfold Fw.swp
  rw [List.getElem?_set_ne (by omega), List.getElem?_set_ne (by omega)]
theorem Within.oks {L0 L : List α} {a b : Nat} (h : Within L0 L a b) (hok : ∀ x ∈ L0, ok x) : ∀ x ∈ L, ok x := fun x hx => hok x (h.perm.mem_iff.1 hx)
theorem srt_unique (T : Tot ok le) {L M : List α} (h : L.Perm M) (hok : ∀ x ∈ M, ok x) (h1 : L.Pairwise le) (h2 : M.Pairwise le) : L = M :=
  List.Perm.eq_of_pairwise (fun a b ha hb => T.anti a b (hok a (h.mem_iff.1 ha)) (hok b hb)) h1 h2 h
end

/-- the order of valid rotations by their angles -/
def RR.leq (a b : RR) : Prop := ¬ b.rot.lt a.rot
theorem RR.tot : Tot (fun r : RR => r.err = 0) RR.leq := by
  refine ⟨fun x hx => Rot.lt_irrefl (RR.err_zero.1 hx).2, fun x y z hx hy hz h1 h2 h3 => ?_, fun x y hx hy => ?_, fun x y hx hy h1 h2 => ?_⟩
  · have ox := (RR.err_zero.1 hx).2
    have oy := (RR.err_zero.1 hy).2
    have oz := (RR.err_zero.1 hz).2
    rcases Rot.lt_cases oy oz with h | h | h
    · exact h1 (Rot.lt_trans oy oz ox h h3)
    · exact h1 (by rw [h]; exact h3)
    · exact h2 h
  · refine Classical.byContradiction fun hn => ?_
    have ox := (RR.err_zero.1 hx).2
    have oy := (RR.err_zero.1 hy).2
    unfold RR.leq at hn
    have a : y.rot.lt x.rot := Classical.byContradiction fun h => hn (.inl h)
    have b : x.rot.lt y.rot := Classical.byContradiction fun h => hn (.inr h)
    exact Rot.lt_irrefl ox (Rot.lt_trans ox oy ox b a)
  · have ox := (RR.err_zero.1 hx).2
    have oy := (RR.err_zero.1 hy).2
    have : x.rot = y.rot := by
      rcases Rot.lt_cases ox oy with h | h | h
      · exact absurd h h2
      · exact h
      · exact absurd h h1
    rw [(RR.err_zero.1 hx).1, (RR.err_zero.1 hy).1, this]
theorem RR.lt_leq {a b : RR} (ha : a.err = 0) (hb : b.err = 0) (h : a.rot.lt b.rot) : a.leq b := by
  intro h2
  exact Rot.lt_irrefl (RR.err_zero.1 ha).2 (Rot.lt_trans (RR.err_zero.1 ha).2 (RR.err_zero.1 hb).2 (RR.err_zero.1 ha).2 h h2)
/-- rows in a heap -/
def putR (T : Heap) (b : Nat) (L : List RR) : Heap := T.set b ⟨(L.map RR.cells).flatten, 6, true⟩
theorem putR_own (T : Heap) {b : Nat} (L : List RR) (h : b < T.length) : OwnR (putR T b L) b L := by
  refine ⟨by decide, RR.cells_all L, ?_, RR.cells_ok L⟩
  unfold putR
  rw [List.getElem?_set_self h]
theorem putR_put (T : Heap) (b : Nat) (L M : List RR) : putR (putR T b L) b M = putR T b M := by simp [putR]
theorem putR_self {T : Heap} {b : Nat} {L : List RR} (h : OwnR T b L) : putR T b L = T := by
  have h1 := Own.blk h
  have hl := Own.lt h
  rw [List.getElem?_eq_some_iff] at h1
  obtain ⟨_, h2⟩ := h1
  unfold putR
  rw [← h2, List.set_getElem_self]
theorem putR_len (T : Heap) (b : Nat) (L : List RR) : (putR T b L).length = T.length := by simp [putR]
theorem OwnR.wr {T : Heap} {b : Nat} {L : List RR} (h : OwnR T b L) {j : Nat} (hj : j < L.length) (x : RR) : Fw.wr T b (j * 6) x.cells = some (putR T b (L.set j x)) := by
  have := Own.wr h (j := j) (by simpa using hj) (x := x.cells) rfl rfl
  rw [this]
  unfold putR
  rw [List.map_set]
section
variable {tt : TT} {S : ACall} {Q : APost} {s : Slots} {H : Heap}
/-- what lies behind a loop that ends two blocks -/
theorem ax_midl2 (M : Slots → Heap → Prop) {b : Code} {id id2 : Nat} {K : Slots → Heap → Prop} (h1 : Ax tt S (.loop b) (AEx.inBlock id (AEx.inBlock id2 (AEx.thn M Q))) s H) (h2 : ∀ s H, M s H → K s H) : Ax tt S (.loop b) (AEx.inBlock id (AEx.inBlock id2 (AEx.thn K Q))) s H := by
  refine Ax_mono (.loop b) h1 ?_
  intro e s H h
  cases e with
  | normal => exact h2 s H h
  | exit i =>
    by_cases hi : i = id
    · subst hi
      simp only [inb_exit, if_true] at h ⊢
      exact h2 s H h
    · simp only [inb_exit, hi, if_false] at h ⊢
      by_cases hi2 : i = id2
      · subst hi2
        simp only [inb_exit, if_true] at h ⊢
        exact h2 s H h
      · simp only [inb_exit, hi2, if_false] at h ⊢
        exact h
  | ret => exact h
end
theorem putPs_two (s : Slots) (p q : Tmp) (a b : Value) : putPs s [p, q] [a, b] = upd (upd s p a) q b := rfl
theorem putPs_one (s : Slots) (p : Tmp) (a : Value) : putPs s [p] [a] = upd s p a := rfl
/-- one round of a loop over an iterator -/
theorem yr_ex {tt : TT} {P : Program} {s : Slots} {ps : Array Tmp} {x y : Code} {as : Array Value} {H1 : Heap} {R : Heap → Prop} (ha : as.size = ps.size)
    (h : Ax tt (SimF P) x (AEx.thn (fun s1 H1' => Ax tt (SimF P) y (fun e _ H' => e = .normal ∧ R H') s1 H1') (fun _ _ _ => False)) (putPs s ps.toList as.toList) H1) : ∃ H2, YR tt P s ps x y as H1 H2 ∧ R H2 := by
  have h2 : Ax tt (SimF P) (.seq x y) (fun e _ H' => e = .normal ∧ R H') (putPs s ps.toList as.toList) H1 := by
    refine Ax_mono x h ?_
    intro e s H h
    cases e with
    | normal => exact h
    | exit i => exact h.elim
    | ret => exact h.elim
  obtain ⟨e, s', H', h3, rfl, hR⟩ := ax_path (.seq x y) h2
  refine ⟨H', ⟨ha, Ax_mono x h3 ?_⟩, hR⟩
  intro e s H h
  cases e with
  | normal =>
    refine Ax_mono y h ?_
    rintro e s H ⟨rfl, rfl, rfl⟩
    exact ⟨rfl, rfl⟩
  | exit i => exact absurd h.1 (fun h => by cases h)
  | ret => exact absurd h.1 (fun h => by cases h)
theorem axT_range {tt : TT} {P : Program} {Q : APost} {s : Slots} {H : Heap} {f : Operand} {ps : Array Tmp} {x y : Code} {g : FuncId} {cap : Array Value} (R : Heap → Prop) (he : ev s f = .func (.func g) #[] cap) (hs : ∃ H', SimY P g (YR tt P s ps x y) cap H H' ∧ R H')
    (k : ∀ H', R H' → Q .normal s H') : AxT tt P (.rangeFunc f ps x y) Q s H := by
  obtain ⟨H', h1, h2⟩ := hs
  exact ⟨g, cap, H', he, h1, k H' h2⟩
section
variable {tt : TT} {S : ACall} {q : Bool} {ops : Array Oper} {K : Slots → Heap → Prop} {l : List Oper} {s : Slots} {H : Heap} {dst : Option Tmp} {ty : TypeId} {pos : String} {af : Array Edge}
/-- the callee is a closure -/
theorem wl_callC {f : Operand} {args : Array Operand} {tys : Array TypeId} {v : Value} (g : FuncId) (cap : Array Value) (hf : ev s f = .func (.func g) #[] cap) (as : Array Value) (ha : args.map (ev s) = as) (hS : S (.func g) (as ++ cap) H v H)
    (k : AxL tt S q ops K l (s.put dst v) H) : AxL tt S q ops K (⟨dst, .call { callee := .value f, args := args, argTypes := tys }, ty, pos, af, none⟩ :: l) s H :=
  wl_call (first := #[]) (cap := cap) hf (by rw [ha]; simpa using hS) (fun _ => ⟨[], by simp⟩) k
end
end Go.Fw
