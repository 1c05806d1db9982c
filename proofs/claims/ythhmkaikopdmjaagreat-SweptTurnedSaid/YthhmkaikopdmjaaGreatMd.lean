/- The types of this seat's translation, as a table; the equations by which texts are walked, as one set; bigint: strip, trim; bigint: load, store; bigint: store, compare; bigint: compare; bigint: plus; bigint: minus; bigint: times; bigint: Div32, Add32, LeadingZeros32, short, shift, unshift; bigint: LeadingZeros32, shift, unshift; bigint: unshift; bigint: digit; bigint: divide; bigint: pack, Of, little; bigint: Of, little; bigint: Neg, Add, Sub, Mul; bigint: Compare, Gcd; bigint: Gcd, Div; bigint: Div; the contracts on integers; rational: integer, is, of; rational: number. Conditions: none. -/
import Derived.Test.YthhmkaikopdmjaaGreatMc
import Derived.Test.YthhmkaikopdmjaaGreatProg
import Derived.KernelRfl
set_option linter.unusedSimpArgs false
set_option linter.unusedVariables false
namespace Go.Proofs.YthhmkaikopdmjaaGreat
open Go Go.Fw
def tt : TT
  | 3 => some ⟨.int .i64, 1, 8, (.int .i64 0), none⟩
  | 4 => some ⟨.bool, 1, 1, (.bool false), none⟩
  | 5 => some ⟨.int .u8, 1, 1, (.int .u8 0), none⟩
  | 9 => some ⟨.str, 1, 16, (.string ⟨#[]⟩), none⟩
  | 22 => some ⟨.slice 26, 1, 24, (.slice none 0 0), none⟩
  | 24 => some ⟨.struct [(4, 0), (9, 1), (9, 2)], 3, 40, (.agg #[(.bool false), (.string ⟨#[]⟩), (.string ⟨#[]⟩)]), some [.bool, .str, .str]⟩
  | 26 => some ⟨.struct [(24, 0), (24, 3)], 6, 80, (.agg #[(.bool false), (.string ⟨#[]⟩), (.string ⟨#[]⟩), (.bool false), (.string ⟨#[]⟩), (.string ⟨#[]⟩)]), some [.bool, .str, .str, .bool, .str, .str]⟩
  | 29 => some ⟨.int .i64, 1, 8, (.int .i64 0), none⟩
  | 52 => some ⟨.slice 90, 1, 24, (.slice none 0 0), none⟩
  | 90 => some ⟨.struct [(24, 0), (24, 3)], 6, 80, (.agg #[(.bool false), (.string ⟨#[]⟩), (.string ⟨#[]⟩), (.bool false), (.string ⟨#[]⟩), (.string ⟨#[]⟩)]), some [.bool, .str, .str, .bool, .str, .str]⟩
  | 106 => some ⟨.struct [(4, 0), (9, 1)], 2, 24, (.agg #[(.bool false), (.string ⟨#[]⟩)]), some [.bool, .str]⟩
  | 108 => some ⟨.struct [(106, 0), (106, 2)], 4, 48, (.agg #[(.bool false), (.string ⟨#[]⟩), (.bool false), (.string ⟨#[]⟩)]), some [.bool, .str, .bool, .str]⟩
  | 114 => some ⟨.int .u64, 1, 8, (.int .u64 0), none⟩
  | 125 => some ⟨.slice 24, 1, 24, (.slice none 0 0), none⟩
  | 144 => some ⟨.slice 147, 1, 24, (.slice none 0 0), none⟩
  | 147 => some ⟨.struct [(90, 0), (90, 6)], 12, 160, (.agg #[(.bool false), (.string ⟨#[]⟩), (.string ⟨#[]⟩), (.bool false), (.string ⟨#[]⟩), (.string ⟨#[]⟩), (.bool false), (.string ⟨#[]⟩), (.string ⟨#[]⟩), (.bool false), (.string ⟨#[]⟩), (.string ⟨#[]⟩)]), some [.bool, .str, .str, .bool, .str, .str, .bool, .str, .str, .bool, .str, .str]⟩
  | 151 => some ⟨.slice 52, 1, 24, (.slice none 0 0), none⟩
  | 159 => some ⟨.int .u64, 1, 8, (.int .u64 0), none⟩
  | 161 => some ⟨.int .u32, 1, 4, (.int .u32 0), none⟩
  | 163 => some ⟨.slice 161, 1, 24, (.slice none 0 0), none⟩
  | 169 => some ⟨.arr 3 3, 3, 24, (.agg #[(.int .i64 0), (.int .i64 0), (.int .i64 0)]), none⟩
  | 171 => some ⟨.int .i64, 1, 8, (.int .i64 0), none⟩
  | 203 => some ⟨.slice 5, 1, 24, (.slice none 0 0), none⟩
  | 204 => some ⟨.arr 8 5, 8, 8, (.agg #[(.int .u8 0), (.int .u8 0), (.int .u8 0), (.int .u8 0), (.int .u8 0), (.int .u8 0), (.int .u8 0), (.int .u8 0)]), none⟩
  | 209 => some ⟨.int .u64, 1, 8, (.int .u64 0), none⟩
  | 228 => some ⟨.arr 8 9, 8, 128, (.agg #[(.string ⟨#[]⟩), (.string ⟨#[]⟩), (.string ⟨#[]⟩), (.string ⟨#[]⟩), (.string ⟨#[]⟩), (.string ⟨#[]⟩), (.string ⟨#[]⟩), (.string ⟨#[]⟩)]), none⟩
  | 229 => some ⟨.slice 3, 1, 24, (.slice none 0 0), none⟩
  | _ => none
theorem mixed : Tryz.prog.follows .mixedOrders = true := by kernel_rfl
theorem deep : 8 ≤ Tryz.prog.depth := by decide +kernel
theorem tok3 : TOKat Tryz.prog 3 ⟨.int .i64, 1, 8, (.int .i64 0), none⟩ := TOKat.make (by kernel_rfl) Tryz.underlying3 (by kernel_rfl) (by kernel_rfl) (fun ks h => by cases h) deep
theorem tok4 : TOKat Tryz.prog 4 ⟨.bool, 1, 1, (.bool false), none⟩ := TOKat.make (by kernel_rfl) Tryz.underlying4 (by kernel_rfl) (by kernel_rfl) (fun ks h => by cases h) deep
theorem tok5 : TOKat Tryz.prog 5 ⟨.int .u8, 1, 1, (.int .u8 0), none⟩ := TOKat.make (by kernel_rfl) Tryz.underlying5 (by kernel_rfl) (by kernel_rfl) (fun ks h => by cases h) deep
theorem tok9 : TOKat Tryz.prog 9 ⟨.str, 1, 16, (.string ⟨#[]⟩), none⟩ := TOKat.make (by kernel_rfl) Tryz.underlying9 (by kernel_rfl) (by kernel_rfl) (fun ks h => by cases h) deep
theorem tok22 : TOKat Tryz.prog 22 ⟨.slice 26, 1, 24, (.slice none 0 0), none⟩ := TOKat.make (by kernel_rfl) Tryz.underlying22 (by kernel_rfl) (by kernel_rfl) (fun ks h => by cases h) deep
theorem tok24 : TOKat Tryz.prog 24 ⟨.struct [(4, 0), (9, 1), (9, 2)], 3, 40, (.agg #[(.bool false), (.string ⟨#[]⟩), (.string ⟨#[]⟩)]), some [.bool, .str, .str]⟩ := TOKat.make (by kernel_rfl) Tryz.underlying24 (by kernel_rfl) (by kernel_rfl) (fun ks h => by cases h; exact ⟨by kernel_rfl, by kernel_rfl⟩) deep
theorem tok26 : TOKat Tryz.prog 26 ⟨.struct [(24, 0), (24, 3)], 6, 80, (.agg #[(.bool false), (.string ⟨#[]⟩), (.string ⟨#[]⟩), (.bool false), (.string ⟨#[]⟩), (.string ⟨#[]⟩)]), some [.bool, .str, .str, .bool, .str, .str]⟩ := TOKat.make (by kernel_rfl) Tryz.underlying26 (by kernel_rfl) (by kernel_rfl) (fun ks h => by cases h; exact ⟨by kernel_rfl, by kernel_rfl⟩) deep
theorem tok29 : TOKat Tryz.prog 29 ⟨.int .i64, 1, 8, (.int .i64 0), none⟩ := TOKat.make (by kernel_rfl) Tryz.underlying29 (by kernel_rfl) (by kernel_rfl) (fun ks h => by cases h) deep
theorem tok52 : TOKat Tryz.prog 52 ⟨.slice 90, 1, 24, (.slice none 0 0), none⟩ := TOKat.make (by kernel_rfl) Tryz.underlying52 (by kernel_rfl) (by kernel_rfl) (fun ks h => by cases h) deep
theorem tok90 : TOKat Tryz.prog 90 ⟨.struct [(24, 0), (24, 3)], 6, 80, (.agg #[(.bool false), (.string ⟨#[]⟩), (.string ⟨#[]⟩), (.bool false), (.string ⟨#[]⟩), (.string ⟨#[]⟩)]), some [.bool, .str, .str, .bool, .str, .str]⟩ := TOKat.make (by kernel_rfl) Tryz.underlying90 (by kernel_rfl) (by kernel_rfl) (fun ks h => by cases h; exact ⟨by kernel_rfl, by kernel_rfl⟩) deep
theorem tok106 : TOKat Tryz.prog 106 ⟨.struct [(4, 0), (9, 1)], 2, 24, (.agg #[(.bool false), (.string ⟨#[]⟩)]), some [.bool, .str]⟩ := TOKat.make (by kernel_rfl) Tryz.underlying106 (by kernel_rfl) (by kernel_rfl) (fun ks h => by cases h; exact ⟨by kernel_rfl, by kernel_rfl⟩) deep
theorem tok108 : TOKat Tryz.prog 108 ⟨.struct [(106, 0), (106, 2)], 4, 48, (.agg #[(.bool false), (.string ⟨#[]⟩), (.bool false), (.string ⟨#[]⟩)]), some [.bool, .str, .bool, .str]⟩ := TOKat.make (by kernel_rfl) Tryz.underlying108 (by kernel_rfl) (by kernel_rfl) (fun ks h => by cases h; exact ⟨by kernel_rfl, by kernel_rfl⟩) deep
theorem tok114 : TOKat Tryz.prog 114 ⟨.int .u64, 1, 8, (.int .u64 0), none⟩ := TOKat.make (by kernel_rfl) Tryz.underlying114 (by kernel_rfl) (by kernel_rfl) (fun ks h => by cases h) deep
theorem tok125 : TOKat Tryz.prog 125 ⟨.slice 24, 1, 24, (.slice none 0 0), none⟩ := TOKat.make (by kernel_rfl) Tryz.underlying125 (by kernel_rfl) (by kernel_rfl) (fun ks h => by cases h) deep
theorem tok144 : TOKat Tryz.prog 144 ⟨.slice 147, 1, 24, (.slice none 0 0), none⟩ := TOKat.make (by kernel_rfl) Tryz.underlying144 (by kernel_rfl) (by kernel_rfl) (fun ks h => by cases h) deep
theorem tok147 : TOKat Tryz.prog 147 ⟨.struct [(90, 0), (90, 6)], 12, 160, (.agg #[(.bool false), (.string ⟨#[]⟩), (.string ⟨#[]⟩), (.bool false), (.string ⟨#[]⟩), (.string ⟨#[]⟩), (.bool false), (.string ⟨#[]⟩), (.string ⟨#[]⟩), (.bool false), (.string ⟨#[]⟩), (.string ⟨#[]⟩)]), some [.bool, .str, .str, .bool, .str, .str, .bool, .str, .str, .bool, .str, .str]⟩ := TOKat.make (by kernel_rfl) Tryz.underlying147 (by kernel_rfl) (by kernel_rfl) (fun ks h => by cases h; exact ⟨by kernel_rfl, by kernel_rfl⟩) deep
theorem tok151 : TOKat Tryz.prog 151 ⟨.slice 52, 1, 24, (.slice none 0 0), none⟩ := TOKat.make (by kernel_rfl) Tryz.underlying151 (by kernel_rfl) (by kernel_rfl) (fun ks h => by cases h) deep
theorem tok159 : TOKat Tryz.prog 159 ⟨.int .u64, 1, 8, (.int .u64 0), none⟩ := TOKat.make (by kernel_rfl) Tryz.underlying159 (by kernel_rfl) (by kernel_rfl) (fun ks h => by cases h) deep
theorem tok161 : TOKat Tryz.prog 161 ⟨.int .u32, 1, 4, (.int .u32 0), none⟩ := TOKat.make (by kernel_rfl) Tryz.underlying161 (by kernel_rfl) (by kernel_rfl) (fun ks h => by cases h) deep
theorem tok163 : TOKat Tryz.prog 163 ⟨.slice 161, 1, 24, (.slice none 0 0), none⟩ := TOKat.make (by kernel_rfl) Tryz.underlying163 (by kernel_rfl) (by kernel_rfl) (fun ks h => by cases h) deep
theorem tok169 : TOKat Tryz.prog 169 ⟨.arr 3 3, 3, 24, (.agg #[(.int .i64 0), (.int .i64 0), (.int .i64 0)]), none⟩ := TOKat.make (by kernel_rfl) Tryz.underlying169 (by kernel_rfl) (by kernel_rfl) (fun ks h => by cases h) deep
theorem tok171 : TOKat Tryz.prog 171 ⟨.int .i64, 1, 8, (.int .i64 0), none⟩ := TOKat.make (by kernel_rfl) Tryz.underlying171 (by kernel_rfl) (by kernel_rfl) (fun ks h => by cases h) deep
theorem tok203 : TOKat Tryz.prog 203 ⟨.slice 5, 1, 24, (.slice none 0 0), none⟩ := TOKat.make (by kernel_rfl) Tryz.underlying203 (by kernel_rfl) (by kernel_rfl) (fun ks h => by cases h) deep
theorem tok204 : TOKat Tryz.prog 204 ⟨.arr 8 5, 8, 8, (.agg #[(.int .u8 0), (.int .u8 0), (.int .u8 0), (.int .u8 0), (.int .u8 0), (.int .u8 0), (.int .u8 0), (.int .u8 0)]), none⟩ := TOKat.make (by kernel_rfl) Tryz.underlying204 (by kernel_rfl) (by kernel_rfl) (fun ks h => by cases h) deep
theorem tok209 : TOKat Tryz.prog 209 ⟨.int .u64, 1, 8, (.int .u64 0), none⟩ := TOKat.make (by kernel_rfl) Tryz.underlying209 (by kernel_rfl) (by kernel_rfl) (fun ks h => by cases h) deep
theorem tok228 : TOKat Tryz.prog 228 ⟨.arr 8 9, 8, 128, (.agg #[(.string ⟨#[]⟩), (.string ⟨#[]⟩), (.string ⟨#[]⟩), (.string ⟨#[]⟩), (.string ⟨#[]⟩), (.string ⟨#[]⟩), (.string ⟨#[]⟩), (.string ⟨#[]⟩)]), none⟩ := TOKat.make (by kernel_rfl) Tryz.underlying228 (by kernel_rfl) (by kernel_rfl) (fun ks h => by cases h) deep
theorem tok229 : TOKat Tryz.prog 229 ⟨.slice 3, 1, 24, (.slice none 0 0), none⟩ := TOKat.make (by kernel_rfl) Tryz.underlying229 (by kernel_rfl) (by kernel_rfl) (fun ks h => by cases h) deep
theorem tt3 : tt 3 = some ⟨.int .i64, 1, 8, (.int .i64 0), none⟩ := rfl
theorem tt4 : tt 4 = some ⟨.bool, 1, 1, (.bool false), none⟩ := rfl
theorem tt5 : tt 5 = some ⟨.int .u8, 1, 1, (.int .u8 0), none⟩ := rfl
theorem tt9 : tt 9 = some ⟨.str, 1, 16, (.string ⟨#[]⟩), none⟩ := rfl
theorem tt22 : tt 22 = some ⟨.slice 26, 1, 24, (.slice none 0 0), none⟩ := rfl
theorem tt24 : tt 24 = some ⟨.struct [(4, 0), (9, 1), (9, 2)], 3, 40, (.agg #[(.bool false), (.string ⟨#[]⟩), (.string ⟨#[]⟩)]), some [.bool, .str, .str]⟩ := rfl
theorem tt26 : tt 26 = some ⟨.struct [(24, 0), (24, 3)], 6, 80, (.agg #[(.bool false), (.string ⟨#[]⟩), (.string ⟨#[]⟩), (.bool false), (.string ⟨#[]⟩), (.string ⟨#[]⟩)]), some [.bool, .str, .str, .bool, .str, .str]⟩ := rfl
theorem tt29 : tt 29 = some ⟨.int .i64, 1, 8, (.int .i64 0), none⟩ := rfl
theorem tt52 : tt 52 = some ⟨.slice 90, 1, 24, (.slice none 0 0), none⟩ := rfl
theorem tt90 : tt 90 = some ⟨.struct [(24, 0), (24, 3)], 6, 80, (.agg #[(.bool false), (.string ⟨#[]⟩), (.string ⟨#[]⟩), (.bool false), (.string ⟨#[]⟩), (.string ⟨#[]⟩)]), some [.bool, .str, .str, .bool, .str, .str]⟩ := rfl
theorem tt106 : tt 106 = some ⟨.struct [(4, 0), (9, 1)], 2, 24, (.agg #[(.bool false), (.string ⟨#[]⟩)]), some [.bool, .str]⟩ := rfl
theorem tt108 : tt 108 = some ⟨.struct [(106, 0), (106, 2)], 4, 48, (.agg #[(.bool false), (.string ⟨#[]⟩), (.bool false), (.string ⟨#[]⟩)]), some [.bool, .str, .bool, .str]⟩ := rfl
theorem tt114 : tt 114 = some ⟨.int .u64, 1, 8, (.int .u64 0), none⟩ := rfl
theorem tt125 : tt 125 = some ⟨.slice 24, 1, 24, (.slice none 0 0), none⟩ := rfl
theorem tt144 : tt 144 = some ⟨.slice 147, 1, 24, (.slice none 0 0), none⟩ := rfl
theorem tt147 : tt 147 = some ⟨.struct [(90, 0), (90, 6)], 12, 160, (.agg #[(.bool false), (.string ⟨#[]⟩), (.string ⟨#[]⟩), (.bool false), (.string ⟨#[]⟩), (.string ⟨#[]⟩), (.bool false), (.string ⟨#[]⟩), (.string ⟨#[]⟩), (.bool false), (.string ⟨#[]⟩), (.string ⟨#[]⟩)]), some [.bool, .str, .str, .bool, .str, .str, .bool, .str, .str, .bool, .str, .str]⟩ := rfl
theorem tt151 : tt 151 = some ⟨.slice 52, 1, 24, (.slice none 0 0), none⟩ := rfl
theorem tt159 : tt 159 = some ⟨.int .u64, 1, 8, (.int .u64 0), none⟩ := rfl
theorem tt161 : tt 161 = some ⟨.int .u32, 1, 4, (.int .u32 0), none⟩ := rfl
theorem tt163 : tt 163 = some ⟨.slice 161, 1, 24, (.slice none 0 0), none⟩ := rfl
theorem tt169 : tt 169 = some ⟨.arr 3 3, 3, 24, (.agg #[(.int .i64 0), (.int .i64 0), (.int .i64 0)]), none⟩ := rfl
theorem tt171 : tt 171 = some ⟨.int .i64, 1, 8, (.int .i64 0), none⟩ := rfl
theorem tt203 : tt 203 = some ⟨.slice 5, 1, 24, (.slice none 0 0), none⟩ := rfl
theorem tt204 : tt 204 = some ⟨.arr 8 5, 8, 8, (.agg #[(.int .u8 0), (.int .u8 0), (.int .u8 0), (.int .u8 0), (.int .u8 0), (.int .u8 0), (.int .u8 0), (.int .u8 0)]), none⟩ := rfl
theorem tt209 : tt 209 = some ⟨.int .u64, 1, 8, (.int .u64 0), none⟩ := rfl
theorem tt228 : tt 228 = some ⟨.arr 8 9, 8, 128, (.agg #[(.string ⟨#[]⟩), (.string ⟨#[]⟩), (.string ⟨#[]⟩), (.string ⟨#[]⟩), (.string ⟨#[]⟩), (.string ⟨#[]⟩), (.string ⟨#[]⟩), (.string ⟨#[]⟩)]), none⟩ := rfl
theorem tt229 : tt 229 = some ⟨.slice 3, 1, 24, (.slice none 0 0), none⟩ := rfl
theorem tok : TOK Tryz.prog tt := by
  intro t i h
  unfold tt at h
  split at h <;> first | cases h | skip
  · exact tok3
  · exact tok4
  · exact tok5
  · exact tok9
  · exact tok22
  · exact tok24
  · exact tok26
  · exact tok29
  · exact tok52
  · exact tok90
  · exact tok106
  · exact tok108
  · exact tok114
  · exact tok125
  · exact tok144
  · exact tok147
  · exact tok151
  · exact tok159
  · exact tok161
  · exact tok163
  · exact tok169
  · exact tok171
  · exact tok203
  · exact tok204
  · exact tok209
  · exact tok228
  · exact tok229
theorem res9 : Tryz.f9.results.toList = [.tmp 8] := rfl
theorem res19 : Tryz.f19.results.toList = [.cell 4 26, .tmp 5] := rfl
theorem res21 : Tryz.f21.results.toList = [.tmp 4] := rfl
theorem res32 : Tryz.f32.results.toList = [.tmp 2] := rfl
theorem res33 : Tryz.f33.results.toList = [.tmp 2] := rfl
theorem res34 : Tryz.f34.results.toList = [.tmp 2] := rfl
theorem res35 : Tryz.f35.results.toList = [.tmp 0] := rfl
theorem res36 : Tryz.f36.results.toList = [.tmp 6, .tmp 7] := rfl
theorem res37 : Tryz.f37.results.toList = [.tmp 2, .tmp 3] := rfl
theorem res38 : Tryz.f38.results.toList = [.tmp 4] := rfl
theorem res39 : Tryz.f39.results.toList = [.cell 6 24, .tmp 7] := rfl
theorem res40 : Tryz.f40.results.toList = [.tmp 4] := rfl
theorem res44 : Tryz.f44.results.toList = [.cell 2 24] := rfl
theorem res45 : Tryz.f45.results.toList = [.cell 4 24, .tmp 5] := rfl
theorem res58 : Tryz.f58.results.toList = [.tmp 2] := rfl
theorem res59 : Tryz.f59.results.toList = [.cell 4 26] := rfl
theorem res60 : Tryz.f60.results.toList = [.tmp 4] := rfl
theorem res64 : Tryz.f64.results.toList = [.cell 2 26] := rfl
theorem res71 : Tryz.f71.results.toList = [.tmp 2] := rfl
theorem res72 : Tryz.f72.results.toList = [.tmp 2] := rfl
theorem res73 : Tryz.f73.results.toList = [.tmp 2] := rfl
theorem res74 : Tryz.f74.results.toList = [.cell 2 24] := rfl
theorem res75 : Tryz.f75.results.toList = [.cell 4 24] := rfl
theorem res76 : Tryz.f76.results.toList = [.cell 2 24] := rfl
theorem res77 : Tryz.f77.results.toList = [.cell 4 24] := rfl
theorem res78 : Tryz.f78.results.toList = [.cell 4 90] := rfl
theorem res79 : Tryz.f79.results.toList = [.tmp 4] := rfl
theorem res80 : Tryz.f80.results.toList = [.tmp 6] := rfl
theorem res81 : Tryz.f81.results.toList = [.cell 2 29] := rfl
theorem res82 : Tryz.f82.results.toList = [.tmp 6, .tmp 7] := rfl
theorem res83 : Tryz.f83.results.toList = [.tmp 2] := rfl
theorem res84 : Tryz.f84.results.toList = [.tmp 4] := rfl
theorem res85 : Tryz.f85.results.toList = [.tmp 6] := rfl
theorem res86 : Tryz.f86.results.toList = [.tmp 6] := rfl
theorem res87 : Tryz.f87.results.toList = [.tmp 2] := rfl
theorem res88 : Tryz.f88.results.toList = [.tmp 2] := rfl
theorem res89 : Tryz.f89.results.toList = [.cell 2 24] := rfl
theorem res91 : Tryz.f91.results.toList = [.tmp 2] := rfl
theorem res92 : Tryz.f92.results.toList = [.tmp 2] := rfl
theorem res93 : Tryz.f93.results.toList = [.cell 4 90, .tmp 5] := rfl
theorem res94 : Tryz.f94.results.toList = [.tmp 2, .tmp 3] := rfl
theorem res95 : Tryz.f95.results.toList = [.cell 4 24] := rfl
theorem res96 : Tryz.f96.results.toList = [.cell 2 108] := rfl
theorem res97 : Tryz.f97.results.toList = [.cell 2 24] := rfl
theorem res98 : Tryz.f98.results.toList = [.cell 4 24, .tmp 5] := rfl
theorem res99 : Tryz.f99.results.toList = [.cell 2 106] := rfl
theorem res100 : Tryz.f100.results.toList = [.cell 4 24] := rfl
theorem res113 : Tryz.f113.results.toList = [.cell 4 24] := rfl
theorem res114 : Tryz.f114.results.toList = [.tmp 2] := rfl
theorem res119 : Tryz.f119.results.toList = [.tmp 2] := rfl
theorem res125 : Tryz.f125.results.toList = [.tmp 2] := rfl
theorem res126 : Tryz.f126.results.toList = [.cell 4 24] := rfl
theorem res127 : Tryz.f127.results.toList = [.cell 8 24] := rfl
theorem res128 : Tryz.f128.results.toList = [.cell 8 24] := rfl
theorem res129 : Tryz.f129.results.toList = [.cell 4 24] := rfl
theorem res130 : Tryz.f130.results.toList = [.cell 4 24] := rfl
theorem res131 : Tryz.f131.results.toList = [.cell 4 106] := rfl
theorem res132 : Tryz.f132.results.toList = [.tmp 4] := rfl
theorem res133 : Tryz.f133.results.toList = [.tmp 2] := rfl
theorem res134 : Tryz.f134.results.toList = [.tmp 4] := rfl
theorem res135 : Tryz.f135.results.toList = [.tmp 3] := rfl
theorem res136 : Tryz.f136.results.toList = [.tmp 4] := rfl
theorem res137 : Tryz.f137.results.toList = [.tmp 2] := rfl
theorem res138 : Tryz.f138.results.toList = [.tmp 4] := rfl
theorem res139 : Tryz.f139.results.toList = [.tmp 2] := rfl
theorem res140 : Tryz.f140.results.toList = [.tmp 6] := rfl
theorem res141 : Tryz.f141.results.toList = [.tmp 2] := rfl
theorem res142 : Tryz.f142.results.toList = [.tmp 2] := rfl
theorem res143 : Tryz.f143.results.toList = [.tmp 2] := rfl
theorem res145 : Tryz.f145.results.toList = [.cell 4 24] := rfl
theorem res146 : Tryz.f146.results.toList = [.cell 4 90] := rfl
theorem res147 : Tryz.f147.results.toList = [.tmp 2] := rfl
theorem res148 : Tryz.f148.results.toList = [.cell 4 147, .tmp 5, .tmp 6] := rfl
theorem res149 : Tryz.f149.results.toList = [.tmp 4] := rfl
theorem res150 : Tryz.f150.results.toList = [.tmp 2] := rfl
theorem res151 : Tryz.f151.results.toList = [.cell 4 24, .tmp 5] := rfl
theorem res152 : Tryz.f152.results.toList = [.tmp 4] := rfl
theorem res153 : Tryz.f153.results.toList = [.cell 4 90] := rfl
theorem res154 : Tryz.f154.results.toList = [.tmp 2] := rfl
theorem res155 : Tryz.f155.results.toList = [.tmp 2, .tmp 3] := rfl
theorem res156 : Tryz.f156.results.toList = [.cell 4 106] := rfl
theorem res157 : Tryz.f157.results.toList = [.tmp 4] := rfl
theorem res158 : Tryz.f158.results.toList = [.cell 4 106] := rfl
theorem res159 : Tryz.f159.results.toList = [.cell 4 106, .cell 5 106, .tmp 6] := rfl
theorem res160 : Tryz.f160.results.toList = [.cell 2 106] := rfl
theorem res161 : Tryz.f161.results.toList = [.cell 4 106] := rfl
theorem res175 : Tryz.f175.results.toList = [.tmp 4] := rfl
theorem res185 : Tryz.f185.results.toList = [.tmp 2] := rfl
theorem res186 : Tryz.f186.results.toList = [.tmp 2] := rfl
theorem res191 : Tryz.f191.results.toList = [.cell 8 24] := rfl
theorem res192 : Tryz.f192.results.toList = [.cell 4 24] := rfl
theorem res193 : Tryz.f193.results.toList = [.cell 4 106] := rfl
theorem res194 : Tryz.f194.results.toList = [.tmp 2, .tmp 3, .tmp 4] := rfl
theorem res195 : Tryz.f195.results.toList = [.tmp 2] := rfl
theorem res196 : Tryz.f196.results.toList = [.tmp 2] := rfl
theorem res197 : Tryz.f197.results.toList = [.tmp 4] := rfl
theorem res198 : Tryz.f198.results.toList = [.cell 2 26, .tmp 3] := rfl
theorem res199 : Tryz.f199.results.toList = [.tmp 2] := rfl
theorem res200 : Tryz.f200.results.toList = [.tmp 4] := rfl
theorem res202 : Tryz.f202.results.toList = [.tmp 4] := rfl
theorem res204 : Tryz.f204.results.toList = [.cell 6 90, .tmp 7] := rfl
theorem res205 : Tryz.f205.results.toList = [.cell 6 90] := rfl
theorem res206 : Tryz.f206.results.toList = [.tmp 4] := rfl
theorem res207 : Tryz.f207.results.toList = [.cell 4 147, .tmp 5] := rfl
theorem res208 : Tryz.f208.results.toList = [.tmp 4] := rfl
theorem res210 : Tryz.f210.results.toList = [.tmp 2] := rfl
theorem res211 : Tryz.f211.results.toList = [.tmp 2] := rfl
theorem res212 : Tryz.f212.results.toList = [.tmp 2] := rfl
theorem res213 : Tryz.f213.results.toList = [.tmp 2] := rfl
theorem res214 : Tryz.f214.results.toList = [.tmp 2] := rfl
theorem res215 : Tryz.f215.results.toList = [.tmp 2] := rfl
theorem res216 : Tryz.f216.results.toList = [.tmp 4, .tmp 5] := rfl
theorem res217 : Tryz.f217.results.toList = [.cell 4 106] := rfl
theorem res218 : Tryz.f218.results.toList = [.tmp 2] := rfl
theorem res219 : Tryz.f219.results.toList = [.tmp 2] := rfl
theorem res232 : Tryz.f232.results.toList = [.tmp 8] := rfl
theorem res233 : Tryz.f233.results.toList = [.tmp 8] := rfl
theorem res234 : Tryz.f234.results.toList = [.tmp 4] := rfl
theorem res237 : Tryz.f237.results.toList = [.tmp 2] := rfl
theorem res238 : Tryz.f238.results.toList = [.tmp 2] := rfl
theorem res245 : Tryz.f245.results.toList = [.tmp 2, .tmp 3] := rfl
theorem res246 : Tryz.f246.results.toList = [.tmp 4] := rfl
theorem res247 : Tryz.f247.results.toList = [.tmp 4] := rfl
theorem res248 : Tryz.f248.results.toList = [.tmp 2] := rfl
theorem res249 : Tryz.f249.results.toList = [.tmp 2] := rfl
theorem res250 : Tryz.f250.results.toList = [.tmp 2] := rfl
theorem res251 : Tryz.f251.results.toList = [.cell 2 90] := rfl
theorem res252 : Tryz.f252.results.toList = [.tmp 2] := rfl
theorem res258 : Tryz.f258.results.toList = [.tmp 2] := rfl
theorem res259 : Tryz.f259.results.toList = [.tmp 4] := rfl
theorem res260 : Tryz.f260.results.toList = [.tmp 2] := rfl
theorem res262 : Tryz.f262.results.toList = [.tmp 4, .tmp 5] := rfl
theorem res263 : Tryz.f263.results.toList = [.tmp 2] := rfl
theorem res264 : Tryz.f264.results.toList = [.tmp 4] := rfl
theorem res265 : Tryz.f265.results.toList = [.tmp 6] := rfl
theorem res266 : Tryz.f266.results.toList = [.tmp 4] := rfl
theorem res269 : Tryz.f269.results.toList = [.tmp 6, .tmp 7] := rfl
theorem res275 : Tryz.f275.results.toList = [.tmp 6, .tmp 7] := rfl
theorem res276 : Tryz.f276.results.toList = [.tmp 6, .tmp 7] := rfl
theorem res280 : Tryz.f280.results.toList = [.tmp 8, .tmp 9] := rfl
theorem res282 : Tryz.f282.results.toList = [.tmp 8] := rfl
theorem res283 : Tryz.f283.results.toList = [.tmp 10] := rfl
theorem res284 : Tryz.f284.results.toList = [.tmp 10, .tmp 11] := rfl
theorem res286 : Tryz.f286.results.toList = [.tmp 8] := rfl
theorem res287 : Tryz.f287.results.toList = [.tmp 12] := rfl
theorem res288 : Tryz.f288.results.toList = [.tmp 10, .tmp 11] := rfl
end Go.Proofs.YthhmkaikopdmjaaGreat
namespace Go.Proofs.YthhmkaikopdmjaaGreat
open Go Go.Fw
attribute [go_sem] wl_nil wl_move wl_assign wl_pick wl_alloc wl_box wl_build wl_buildSlice wl_load wl_store wl_nilCheck wl_binOp wl_unOp wl_convert wl_makeFunc wl_makeSlice wl_slice wl_fieldAddr wl_field wl_indexAddr wl_index wl_extract wl_len wl_append wl_max wl_guard axV_some axW_some axH_some axP_bool axG_tt axG_tf axG_ft axG_ff axG_n undef_eq ev_tmp ev_const ev_func upd_at put_some put_none newPtr_at newPtr_0 mkBlk eszOf aBuild aStore aLoad aFieldAddr rd_app wr_app rd_app0 wr_app0 rd_zero rd_succ wr_zero wr_succ allC_nil allC_cons parts' fillL placesOf sizeT splice cells_bool cells_int cells_string cells_pointer cells_slice cells_func cells_agg cell_bool cell_int cell_string cell_pointer cell_slice cell_func exT_tuple ini_0 ini_s TD.agg List.length_cons List.length_nil List.length_append List.getElem?_cons_zero List.getElem?_cons_succ List.set_cons_zero List.set_cons_succ List.take_succ_cons List.take_zero List.drop_succ_cons List.drop_zero List.take_nil List.drop_nil List.append_assoc List.cons_append List.nil_append List.append_nil List.map_cons List.map_nil List.map_toArray List.size_toArray Option.map_some Option.map_none Option.isSome_some Option.isSome_none if_true if_false List.all_cons List.all_nil Bool.and_true Bool.true_and Bool.and_self and_self true_and and_true or_self or_false false_or not_true_eq_false not_false_eq_true ne_eq Nat.add_zero Nat.zero_add Nat.zero_le Nat.le_refl Bool.false_eq_true Nat.lt_irrefl gt_iff_lt Nat.zero_lt_succ wa_region wa_seq wa_skip wa_block wa_exit wa_ret thn_normal thn_ret thn_exit inb_normal inb_ret inb_exit bin_add bin_sub bin_mul bin_quo bin_rem bin_shl bin_shr bin_and bin_or bin_xor bin_eql bin_neq bin_lss bin_leq bin_gtr bin_geq bin_seql bin_sneq un_not un_neg bs_nil bs_size bs_get bs_extract yieldA List.getElem?_toArray Option.bind_some decide_eq_true_eq decide_eq_false_iff_not Option.some.injEq aIndex ret_eq resL bndL_some resV_one resV_two resV_three cast0 cast1 Bool.not_true Bool.not_false decide_true decide_false Int.toNat_zero Int.toNat_natCast Int.le_refl bits_u8 bits_u32 bits_u64 bits_i64 un_xor_u32 tt3 tt4 tt5 tt9 tt22 tt24 tt26 tt29 tt52 tt90 tt106 tt108 tt114 tt125 tt144 tt147 tt151 tt159 tt161 tt163 tt169 tt171 tt203 tt204 tt209 tt228 tt229
end Go.Proofs.YthhmkaikopdmjaaGreat
namespace Go.Proofs.YthhmkaikopdmjaaGreat
open Go Go.Fw
theorem strip_sim (m : List UInt8) (H : Heap) : Sim Tryz.prog 249 #[.string (bs m)] H (.string (bs (dropZ m))) H := by
  refine soA tok mixed Tryz.func249 ?_
  simp -implicitDefEqProofs only [go_sem, simprocAttr]
  refine ax_loopx (fun (l : List UInt8) s H' => s 0 = .string (bs l) ∧ dropZ l = dropZ m ∧ H' = H) List.length m ⟨by simp -implicitDefEqProofs only [go_sem, simprocAttr], rfl, rfl⟩ ?_
  rintro l s H' ⟨h0, hl, rfl⟩
  cases l with
  | nil =>
    simp -implicitDefEqProofs only [go_sem, simprocAttr, h0]
    refine ax_cond2 ?_
    simp only [ev_tmp, ev_const, ev_func, upd_at, put_some, put_none, bndB_bool, Nat.reduceEqDiff, if_true, if_false, ↓reduceIte, reduceCtorEq]
    refine ⟨fun hc => ?_, fun hc => ?_⟩
    · cases hc
    simp -implicitDefEqProofs only [go_sem, simprocAttr, res249, h0, ← hl]
    rfl
  | cons b l =>
    have hne : ¬ bs (b :: l) = bs [] := by rw [bs_inj]; simp
    simp -implicitDefEqProofs only [go_sem, simprocAttr, h0, hne]
    refine ax_cond2 ?_
    simp only [ev_tmp, ev_const, ev_func, upd_at, put_some, put_none, bndB_bool, Nat.reduceEqDiff, if_true, if_false, ↓reduceIte, reduceCtorEq]
    refine ⟨fun hc => ?_, fun hc => ?_⟩
    · have hb : b = 0 := u8_zero.1 (by simpa using hc)
      have e : dropZ l = dropZ m := by
        rw [← hl]; simp only [dropZ, hb, if_true]
      simp -implicitDefEqProofs only [go_sem, simprocAttr, h0, aSlice, bnd]
      exact ⟨l, ⟨by simp, e⟩, by simp⟩
    · have hb : ¬ b = 0 := fun h => by rw [decide_eq_false_iff_not, u8_zero] at hc; exact hc h
      simp -implicitDefEqProofs only [go_sem, simprocAttr, res249, h0, ← hl]
      simp only [dropZ, hb, if_false]
theorem trim_nil (H : Heap) : Sim Tryz.prog 218 #[.slice none 0 0] H (.slice none 0 0) H := by
  refine soA tok mixed Tryz.func218 ?_
  simp -implicitDefEqProofs only [go_sem, simprocAttr]
  refine ax_loopx (fun (_ : Unit) s H' => s 0 = .slice none 0 0 ∧ H' = H) (fun _ => 0) () ⟨by simp -implicitDefEqProofs only [go_sem, simprocAttr], rfl⟩ ?_
  rintro _ s H' ⟨h0, rfl⟩
  simp -implicitDefEqProofs only [go_sem, simprocAttr, h0, aLen, Int.lt_irrefl]
  refine ax_cond2 ?_
  simp only [ev_tmp, ev_const, ev_func, upd_at, put_some, put_none, bndB_bool, Nat.reduceEqDiff, if_true, if_false, ↓reduceIte, reduceCtorEq]
  refine ⟨fun hc => ?_, fun hc => ?_⟩
  · cases hc
  · simp -implicitDefEqProofs only [go_sem, simprocAttr, res218, h0]
theorem trim_at {H : Heap} {b i c : Nat} {l : List Nat} (h : LimAt H b i c l) : Sim Tryz.prog 218 #[.slice (some ⟨b, i, none⟩) l.length c] H (.slice (some ⟨b, i, none⟩) (trimZ l).length c) H := by
  refine soA tok mixed Tryz.func218 ?_
  simp -implicitDefEqProofs only [go_sem, simprocAttr]
  refine ax_loopx (fun (k : Nat) s H' => s 0 = .slice (some ⟨b, i, none⟩) k c ∧ k ≤ l.length ∧ trimZ (l.take k) = trimZ l ∧ H' = H) id l.length ⟨by simp -implicitDefEqProofs only [go_sem, simprocAttr], by simp, by simp, rfl⟩ ?_
  rintro k s H' ⟨h0, hk, ht, rfl⟩
  have hlen := h.len
  cases k with
  | zero =>
    simp -implicitDefEqProofs only [go_sem, simprocAttr, h0, aLen, Int.lt_irrefl]
    refine ax_cond2 ?_
    simp only [ev_tmp, ev_const, ev_func, upd_at, put_some, put_none, bndB_bool, Nat.reduceEqDiff, if_true, if_false, ↓reduceIte, reduceCtorEq]
    refine ⟨fun hc => ?_, fun hc => ?_⟩
    · cases hc
    · rw [← ht]
      simp -implicitDefEqProofs only [go_sem, simprocAttr, res218, h0]
      rfl
  | succ k =>
    have hp : (0 : Int) < ((k + 1 : Nat) : Int) := by omega
    have hr := h.rd (k := k) (by omega)
    have hw : IntKind.i64.wrap (((k + 1 : Nat) : Int) - 1) = (k : Int) := by rw [castS]; exact w64 (by omega) (by omega)
    have hlt : (k : Int) < ((k + 1 : Nat) : Int) := by omega
    have hnn : (0 : Int) ≤ (k : Int) := by omega
    simp -implicitDefEqProofs only [go_sem, simprocAttr, h0, aLen, hp, hw, hr, hlt, hnn, aIndexAddr, Nat.mul_one]
    refine ax_cond2 ?_
    simp only [ev_tmp, ev_const, ev_func, upd_at, put_some, put_none, bndB_bool, Nat.reduceEqDiff, if_true, if_false, ↓reduceIte, reduceCtorEq]
    refine ⟨fun hc => ?_, fun hc => ?_⟩
    · have hx : l[k] = 0 := by simpa using hc
      have hsl := aSlice_at (tt := tt) (H := H') (t := 163) (b := b) (i := i) (n := k + 1) (c := c) (l := 0) (h := k) (lo := none) (hi := some (.int .i64 (k : Nat))) tt163 (s := 1) rfl
        (by obtain ⟨B, h1, h2, _⟩ := h.blk; exact ⟨B, h1, h2⟩) (by omega) (by have := h.cap; omega) rfl (by simp [bnd]) (by omega) (by omega)
      simp only [Nat.zero_mul, Nat.add_zero, Nat.sub_zero] at hsl
      simp -implicitDefEqProofs only [go_sem, simprocAttr, h0, aLen, hw, hsl]
      refine ⟨k, ⟨rfl, by omega, ?_⟩, Nat.lt_succ_self k⟩
      rw [← ht, List.take_add_one, List.getElem?_eq_getElem (by omega), hx]
      simp only [Option.toList_some, trimZ_snoc, if_true]
    · have hx : ¬ l[k] = 0 := by simpa using hc
      simp -implicitDefEqProofs only [go_sem, simprocAttr, res218, h0]
      rw [← ht, List.take_add_one, List.getElem?_eq_getElem (by omega)]
      simp only [Option.toList_some, trimZ_snoc, hx, if_false, List.length_append, List.length_take, List.length_cons, List.length_nil, Value.slice.injEq, true_and, and_true]
      omega
theorem trim_sim {H : Heap} {v : Value} {l : List Nat} (h : Lim H v l) : ∃ w, Sim Tryz.prog 218 #[v] H w H ∧ Lim H w (trimZ l) := by
  rcases h with ⟨rfl, rfl⟩ | ⟨b, i, c, rfl, h⟩
  · exact ⟨_, trim_nil H, .inl ⟨rfl, rfl⟩⟩
  · refine ⟨_, trim_at h, ?_⟩
    obtain ⟨k, hk⟩ := trimZ_take l
    rw [hk]; exact (h.take k).lim
end Go.Proofs.YthhmkaikopdmjaaGreat
namespace Go.Proofs.YthhmkaikopdmjaaGreat
open Go Go.Fw
theorem zerosL_one (v : Value) (n : Nat) : zerosL [v] n = List.replicate n v := by
  unfold zerosL
  apply List.ext_getElem
  · simp
  · intro i h1 h2
    simp [Nat.mod_one]
theorem make_u32 (H : Heap) (k k' : IntKind) (l c : Nat) (hl : l ≤ c) (hc : c ≤ 200000000) : aMakeSlice tt H 163 (.int k (l : Nat)) (.int k' (c : Nat)) = some (.slice (some ⟨H.length, 0, none⟩) l c, H ++ [⟨u32s (List.replicate c 0), 1, true⟩]) := by
  unfold aMakeSlice
  simp only [tt163, tt161]
  rw [if_pos (by omega)]
  by_cases h0 : c = 0
  · subst h0
    simp [zerosL, u32s]
  · simp only [Int.toNat_natCast, Nat.mul_one, if_neg h0, cells_int]
    rw [zerosL_one, u32s_zeros]
set_option maxRecDepth 4000
theorem load_sim (m : List UInt8) (H : Heap) (hm : m.length ≤ 1000000) : ∃ v H', Sim Tryz.prog 196 #[.string (bs m)] H v H' ∧ Ext H H' ∧ LN H' v (valB m) := by
  have hd : (dropZ m).length ≤ 1000000 := Nat.le_trans (dropZ_len m) hm
  have hdd := dropZ_idem m
  rw [← valB_drop m]
  refine sxA tok mixed Tryz.func196 ?_
  simp -implicitDefEqProofs only [go_sem, simprocAttr]
  refine wl_callF #[.string (bs m)] (by simp -implicitDefEqProofs only [go_sem, simprocAttr]) (strip_sim m H) (fun h => by cases h) ?_
  generalize dropZ m = d at *
  have e1 : (IntKind.i64.wrap (IntKind.i64.wrap ((d.length : Int) + 4) - 1)) = ((d.length + 3 : Nat) : Int) := by
    rw [w64 (n := (d.length : Int) + 4) (by omega) (by omega)]
    rw [w64 (by omega) (by omega)]; omega
  have e2 : IntKind.i64.wrap ((((d.length + 3 : Nat) : Int)).tdiv 4) = (((d.length + 3) / 4 : Nat) : Int) := by
    rw [Int.tdiv_eq_ediv_of_nonneg (by omega)]
    rw [w64 (by omega) (by omega)]; omega
  simp -implicitDefEqProofs only [go_sem, simprocAttr, aLen, e1, e2, make_u32 H .i64 .i64 _ _ (Nat.le_refl _) (show (d.length + 3) / 4 ≤ 200000000 by omega)]
  refine ax_loopx (fun (j : Nat) s H' => ∃ l, s 0 = .string (bs d) ∧ s 3 = .slice (some ⟨H.length, 0, none⟩) ((d.length + 3) / 4) ((d.length + 3) / 4) ∧ s 15 = .int .i64 (d.length : Nat) ∧ s 16 = .int .i64 (j : Nat) ∧
    j ≤ d.length ∧ l.length = (d.length + 3) / 4 ∧ small l ∧ valL l = valB (d.drop (d.length - j)) ∧ H' = H ++ [⟨u32s l, 1, true⟩]) (fun j => d.length - j) 0 ?_ ?_
  · refine ⟨List.replicate ((d.length + 3) / 4) 0, ?_⟩
    simp -implicitDefEqProofs only [go_sem, simprocAttr]
    exact ⟨by simp, small_zeros _, by rw [valL_zeros, Nat.sub_zero, List.drop_length]; rfl⟩
  rintro j s H' ⟨l, h0, h3, h15, h16, hj, hl, hs, hv, rfl⟩
  simp -implicitDefEqProofs only [go_sem, simprocAttr, h0, h3, h15, h16]
  refine ax_cond2 ?_
  simp only [ev_tmp, ev_const, ev_func, upd_at, put_some, put_none, bndB_bool, Nat.reduceEqDiff, if_true, if_false, ↓reduceIte, reduceCtorEq]
  refine ⟨fun hc => ?_, fun hc => ?_⟩
  · have hj : j < d.length := by simpa using hc
    have e3 : IntKind.i64.wrap ((j : Int).tdiv 4) = ((j / 4 : Nat) : Int) := by rw [show (j : Int).tdiv 4 = ((j / 4 : Nat) : Int) from tdiv_nat j 4]; exact w64 (by omega) (by omega)
    have e4 : (j : Int).tmod 4 = ((j % 4 : Nat) : Int) := tmod_nat j 4
    have e5 : IntKind.i64.wrap (8 * ((j % 4 : Nat) : Int)) = ((8 * (j % 4) : Nat) : Int) := by rw [w64 (by omega) (by omega)]; omega
    have e6 : IntKind.i64.wrap (IntKind.i64.wrap ((d.length : Int) - 1) - (j : Int)) = ((d.length - 1 - j : Nat) : Int) := by
      rw [w64 (n := (d.length : Int) - 1) (by omega) (by omega), w64 (by omega) (by omega)]; omega
    have hq : j / 4 < l.length := by omega
    have hq' : ((j / 4 : Nat) : Int) < (((d.length + 3) / 4 : Nat) : Int) := by omega
    have hn : (0 : Int) ≤ ((j / 4 : Nat) : Int) := by omega
    have hn' : (0 : Int) ≤ ((d.length - 1 - j : Nat) : Int) := by omega
    have hb : d[d.length - 1 - j]? = some (d[d.length - 1 - j]'(by omega)) := List.getElem?_eq_getElem (by omega)
    generalize hbb : (d[d.length - 1 - j]'(by omega)) = b at hb
    have hx : l[j / 4] < 2 ^ (8 * (j % 4)) := by
      have h1 := valL_ge hq
      have h2 := valB_lt (d.drop (d.length - j))
      rw [← hv, List.length_drop, pow_d, show d.length - (d.length - j) = j by omega, pow_split] at h2
      exact Nat.lt_of_mul_lt_mul_left (Nat.lt_of_le_of_lt h1 h2)
    have hp : b.toNat * 2 ^ (8 * (j % 4)) < 4294967296 := by
      have h1 := b.toNat_lt
      have h2 : 2 ^ (8 * (j % 4)) ≤ 2 ^ 24 := Nat.pow_le_pow_right (by decide) (by omega)
      have h3 := Nat.mul_le_mul (show b.toNat ≤ 255 by omega) h2
      omega
    have hw : IntKind.u32.wrap (b.toNat : Int) = (b.toNat : Int) := wu32 (by omega) (by have := b.toNat_lt; omega)
    have hneg : ¬ (((8 * (j % 4) : Nat) : Int) < 0) := by omega
    have hmin : min (8 * (j % 4)) 32 = 8 * (j % 4) := by omega
    have hsh : IntKind.u32.wrap ((b.toNat : Int) * 2 ^ (8 * (j % 4))) = ((b.toNat * 2 ^ (8 * (j % 4)) : Nat) : Int) := by
      have e : ((b.toNat : Int) * 2 ^ (8 * (j % 4))) = ((b.toNat * 2 ^ (8 * (j % 4)) : Nat) : Int) := by rw [Int.natCast_mul, Int.natCast_pow]; rfl
      rw [e]; exact wu32 (by omega) (by omega)
    have hor : orI .u32 (l[j / 4] : Int) ((b.toNat * 2 ^ (8 * (j % 4)) : Nat) : Int) = ((l[j / 4] + b.toNat * 2 ^ (8 * (j % 4)) : Nat) : Int) := by
      rw [or_u32 (small_get hs hq) hp, or_add hx]
    simp -implicitDefEqProofs only [go_sem, simprocAttr, h0, h3, h15, h16, aLen, e6]
    refine ax_loud (by kernel_rfl) ?_
    simp -implicitDefEqProofs only [go_sem, simprocAttr, h0, h3, h15, h16, e3, e4, e5, aIndexAddr, hq', hn, row_rd hq, row_wr hq, hn', hb, aConv, hw, hneg, hmin, hsh, hor, Nat.mul_one]
    refine ⟨j + 1, ⟨l.set (j / 4) (l[j / 4] + b.toNat * 2 ^ (8 * (j % 4))), ?_⟩, by omega⟩
    have hst := valL_set (x := l[j / 4] + b.toNat * 2 ^ (8 * (j % 4))) hq
    have hsum : l[j / 4] + b.toNat * 2 ^ (8 * (j % 4)) < 4294967296 := by
      have := Nat.or_lt_two_pow (n := 32) (small_get hs hq) hp
      rwa [or_add hx] at this
    refine ⟨by rw [w64 (by omega) (by omega)]; rfl, by omega, by simpa using hl, small_set hs hsum, ?_, rfl⟩
    have e7 : d.drop (d.length - (j + 1)) = b :: d.drop (d.length - j) := by
      rw [← hbb, show d.length - (j + 1) = d.length - 1 - j by omega, List.drop_eq_getElem_cons (by omega), show d.length - 1 - j + 1 = d.length - j by omega]
    rw [e7]
    rw [valB_cons, ← hv, List.length_drop, show d.length - (d.length - j) = j by omega, pow_d, pow_split j]
    rw [Nat.mul_add] at hst
    have : b.toNat * (4294967296 ^ (j / 4) * 2 ^ (8 * (j % 4))) = 4294967296 ^ (j / 4) * (b.toNat * 2 ^ (8 * (j % 4))) := by rw [← Nat.mul_assoc, ← Nat.mul_assoc, Nat.mul_comm b.toNat]
    omega
  · have hj' : j = d.length := by have : ¬ j < d.length := by simpa using hc
                                  omega
    simp -implicitDefEqProofs only [go_sem, simprocAttr, res196, h3]
    refine ⟨.app _ _, l, ?_, ?_⟩
    · rw [← hl]
      exact (row_lim (.inr (Nat.le_refl _)) (by omega)).lim
    · rw [hj', Nat.sub_self, List.drop_zero] at hv
      refine Canl.of_len hs hv ?_
      by_cases h0 : d = []
      · left; subst h0; exact List.length_eq_zero_iff.1 hl
      · right
        have h1 := dropZ_ge hdd h0
        rw [pow_d] at h1
        rw [pow_b]
        exact Nat.le_trans (Nat.pow_le_pow_right (by decide) (by omega)) h1
end Go.Proofs.YthhmkaikopdmjaaGreat
set_option maxRecDepth 4000
namespace Go.Proofs.YthhmkaikopdmjaaGreat
open Go Go.Fw
def four (x : Nat) : List UInt8 := [UInt8.ofNat (x / 16777216), UInt8.ofNat (x / 65536), UInt8.ofNat (x / 256), UInt8.ofNat x]
theorem four_val {x : Nat} (h : x < 4294967296) (o : List UInt8) : valB (o ++ four x) = valB o * 4294967296 + x := by
  have e : ∀ n, (UInt8.ofNat n).toNat = n % 256 := fun n => by simp
  have : o ++ four x = (((o ++ [UInt8.ofNat (x / 16777216)]) ++ [UInt8.ofNat (x / 65536)]) ++ [UInt8.ofNat (x / 256)]) ++ [UInt8.ofNat x] := by simp [four]
  rw [this, valB_snoc, valB_snoc, valB_snoc, valB_snoc, e, e, e, e]
  omega
theorem build_u8 (H : Heap) (a b c d : Int) : aBuildSlice tt H 203 4 [(0, .int .u8 a), (1, .int .u8 b), (2, .int .u8 c), (3, .int .u8 d)] = some (.slice (some ⟨H.length, 0, none⟩) 4 4, H ++ [⟨[.int .u8 a, .int .u8 b, .int .u8 c, .int .u8 d], 1, true⟩]) := rfl
theorem store_sim {H : Heap} {v : Value} {l : List Nat} {n : Nat} (h : Lim H v l) (hcan : Canl l n) (hl : l.length ≤ 1000000) : Sim Tryz.prog 219 #[v] H (.string (bs (digB n))) H := by
  suffices hx : ∃ w H', Sim Tryz.prog 219 #[v] H w H' ∧ Ext H H' ∧ w = .string (bs (digB n)) by
    obtain ⟨w, H', h1, ⟨G, rfl⟩, rfl⟩ := hx
    exact Sim.flat h1 (Calm.refl H) rfl
  have hlen : ∀ s0 : Slots, aLen tt [163] v = some (.int .i64 (l.length : Nat)) := by
    rcases h with ⟨rfl, rfl⟩ | ⟨b, i, c, rfl, h⟩ <;> intro _ <;> rfl
  have e1 : IntKind.i64.wrap ((l.length : Int) - 1) = (l.length : Int) - 1 := w64 (by omega) (by omega)
  refine sxA tok mixed Tryz.func219 ?_
  simp -implicitDefEqProofs only [go_sem, simprocAttr, -Int.reducePow, -Nat.reducePow, hlen (ini #[v]), e1]
  refine ax_loopx (fun (k : Nat) s H' => ∃ o, s 0 = v ∧ s 4 = .int .i64 ((k : Int) - 1) ∧ k ≤ l.length ∧ Ext H H' ∧ valB o = valL (l.drop k) ∧ o.length = 4 * (l.length - k) ∧
    ((s 3 = .slice none 0 0 ∧ o = []) ∨ ∃ b, H.length ≤ b ∧ s 3 = .slice (some ⟨b, 0, none⟩) o.length 0 ∧ H'[b]? = some ⟨u8s o, 1, true⟩)) id l.length ?_ ?_
  · refine ⟨[], ?_⟩
    simp -implicitDefEqProofs only [go_sem, simprocAttr, -Int.reducePow, -Nat.reducePow]
    simp [Ext.refl, valB, valL]
  rintro k s H' ⟨o, h0, h4, hk, hE, hv, ho, h3⟩
  simp -implicitDefEqProofs only [go_sem, simprocAttr, -Int.reducePow, -Nat.reducePow, h0, h4]
  refine ax_cond2 ?_
  simp only [ev_tmp, ev_const, ev_func, upd_at, put_some, put_none, bndB_bool, Nat.reduceEqDiff, if_true, if_false, ↓reduceIte, reduceCtorEq]
  refine ⟨fun hc => ?_, fun hc => ?_⟩
  · obtain ⟨b, i, c, rfl, hL⟩ : ∃ b i c, v = .slice (some ⟨b, i, none⟩) l.length c ∧ LimAt H b i c l := by
      rcases h with ⟨rfl, rfl⟩ | h
      · simp at hc hk; omega
      · exact h
    obtain ⟨k, rfl⟩ : ∃ k', k = k' + 1 := ⟨k - 1, by simp at hc; omega⟩
    have hL' := hL.ext hE
    have hr := hL'.rd (k := k) (by omega)
    have hkk : ((k + 1 : Nat) : Int) - 1 = (k : Int) := by omega
    rw [hkk] at h4
    have hlt : (k : Int) < (l.length : Int) := by omega
    have hnn : (0 : Int) ≤ (k : Int) := by omega
    have hneg : ∀ j : Nat, ¬ ((j : Int) < 0) := fun j => by omega
    have hx := small_get hcan.small (k := k) (by omega)
    generalize hxx : l[k] = x at hr hx
    have hn8 : ¬ ((24 : Int) < 0) ∧ ¬ ((16 : Int) < 0) ∧ ¬ ((8 : Int) < 0) := by omega
    have f24 := fdiv_pow x 24
    have f16 := fdiv_pow x 16
    have f8 := fdiv_pow x 8
    obtain ⟨b2, T2, happ, hE2, hb2, hrow⟩ : ∃ b2 T2, aAppend tt (H' ++ [⟨[Value.int .u8 (UInt8.ofNat (x / 16777216)).toNat, Value.int .u8 (UInt8.ofNat (x / 65536)).toNat, Value.int .u8 (UInt8.ofNat (x / 256)).toNat, Value.int .u8 (UInt8.ofNat x).toNat], 1, true⟩]) [203, 203] (s 3) (.slice (some ⟨H'.length, 0, none⟩) 4 4) =
        some (.slice (some ⟨b2, 0, none⟩) (o.length + 4) 0, T2) ∧ Ext H T2 ∧ H.length ≤ b2 ∧ T2[b2]? = some ⟨u8s (o ++ four x), 1, true⟩ := by
      have hx4 := rd_end (H := H') (cs := u8s (four x)) (o := true) (L := []) (show 0 < 1 by decide)
      rcases h3 with ⟨h3, rfl⟩ | ⟨bo, hbo, h3, hrow⟩
      · rw [h3]
        refine ⟨_, _, append_nil tt203 tt5 rfl (by decide) (by decide) hx4 rfl (by decide) rfl (by decide), (hE.trans (.app _ _)).trans (.app _ _), ?_, ?_⟩
        · have := hE.len; simp; omega
        · simp
      · rw [h3]
        have hrow' := (Ext.app H' [⟨u8s (four x), 1, true⟩]).get hrow
        have ha := append_row (tt := tt) (cx := 4) (m := 4) tt203 tt5 rfl (by decide) (by decide) hrow' hx4 rfl (by decide) rfl (by rw [u8s_length, ho]; omega)
        rw [u8s_length o] at ha
        refine ⟨_, _, ha, ((hE.trans (.app _ _)).set hbo _).trans (.app _ _), ?_, ?_⟩
        · have := hE.len; simp; omega
        · simp [u8s_app]
    simp -implicitDefEqProofs only [go_sem, simprocAttr, -Int.reducePow, -Nat.reducePow]
    refine ax_loud (by kernel_rfl) ?_
    simp -implicitDefEqProofs only [go_sem, simprocAttr, -Int.reducePow, -Nat.reducePow, h0, h4, aIndexAddr, hr, hlt, hnn, hn8.1, hn8.2.1, hn8.2.2, Nat.mul_one, aConv, f24, f16, f8, Int.reduceToNat, min_lit24, min_lit16, min_lit8, Nat.reducePow, low_u8, build_u8, happ]
    refine ⟨k, ⟨o ++ four x, ?_⟩, Nat.lt_succ_self k⟩
    refine ⟨by rw [w64 (by omega) (by omega)], by omega, hE2, ?_, by simp [four]; omega, .inr ⟨b2, hb2, by simp [four], hrow⟩⟩
    rw [four_val hx, hv, List.drop_eq_getElem_cons (show k < l.length by omega), hxx]
    simp only [valL]
    omega
  · have hk0 : k = 0 := by simp at hc; omega
    subst hk0
    obtain hcv : aConv tt H' 203 9 (s 3) = some (.string (bs o)) := by
      rcases h3 with ⟨h3, rfl⟩ | ⟨bo, hbo, h3, hrow⟩
      · rw [h3]; rfl
      · rw [h3]
        have := rd_whole hrow (by simp)
        simp only [u8s_length] at this
        unfold aConv
        simp only [tt203, tt9, tt5, this, Option.bind_some, bytesOf_u8s]
        rfl
    simp -implicitDefEqProofs only [go_sem, simprocAttr, -Int.reducePow, -Nat.reducePow, hcv]
    refine wl_callF #[.string (bs o)] (by simp -implicitDefEqProofs only [go_sem, simprocAttr, -Int.reducePow, -Nat.reducePow]) (strip_sim o H') (fun h => by cases h) ?_
    simp -implicitDefEqProofs only [go_sem, simprocAttr, -Int.reducePow, -Nat.reducePow, res219]
    refine ⟨hE, ?_⟩
    rw [digB_strip, hv, List.drop_zero, hcan.val]
end Go.Proofs.YthhmkaikopdmjaaGreat
namespace Go.Proofs.YthhmkaikopdmjaaGreat
open Go Go.Fw
theorem compare_sim {H : Heap} {v w : Value} {l m : List Nat} {n k : Nat} (hv : Lim H v l) (hw : Lim H w m) (hn : Canl l n) (hk : Canl m k) (hl : l.length ≤ 1000000) (hm : m.length ≤ 1000000) :
    Sim Tryz.prog 208 #[v, w] H (.int .i64 (cmpN n k)) H := by
  have e1 := hv.len (tt := tt) tt163
  have e2 := hw.len (tt := tt) tt163
  refine soA tok mixed Tryz.func208 ?_
  simp -implicitDefEqProofs only [go_sem, simprocAttr, e1, e2]
  refine ax_cond2 ?_
  simp only [ev_tmp, ev_const, ev_func, upd_at, put_some, put_none, bndB_bool, Nat.reduceEqDiff, if_true, if_false, ↓reduceIte, reduceCtorEq]
  refine ⟨fun hc0 => have hc := of_decide_eq_true hc0; ?_, fun hc0 => have hc := of_decide_eq_false hc0; ?_⟩
  · simp -implicitDefEqProofs only [go_sem, simprocAttr, e1, e2]
    refine ax_cond2 ?_
    simp only [ev_tmp, ev_const, ev_func, upd_at, put_some, put_none, bndB_bool, Nat.reduceEqDiff, if_true, if_false, ↓reduceIte, reduceCtorEq]
    refine ⟨fun hc0 => have hd := of_decide_eq_true hc0; ?_, fun hc0 => have hd := of_decide_eq_false hc0; ?_⟩
    · have hlt : n < k := hn.len_le hk (by omega)
      simp -implicitDefEqProofs only [go_sem, simprocAttr, res208]
      simp [cmpN, hlt]
    · have hlt : k < n := hk.len_le hn (by omega)
      simp -implicitDefEqProofs only [go_sem, simprocAttr, res208]
      simp [cmpN, hlt, Nat.lt_asymm hlt]
  · have hlen : l.length = m.length := by omega
    have e3 : IntKind.i64.wrap ((l.length : Int) - 1) = (l.length : Int) - 1 := w64 (by omega) (by omega)
    simp -implicitDefEqProofs only [go_sem, simprocAttr, e1, e2, e3]
    refine ax_loopx (fun (j : Nat) s H' => s 0 = v ∧ s 1 = w ∧ s 5 = .int .i64 ((j : Int) - 1) ∧ j ≤ l.length ∧ l.drop j = m.drop j ∧ H' = H) id l.length ?_ ?_
    · simp -implicitDefEqProofs only [go_sem, simprocAttr]
      simp [hlen]
    rintro j s H' ⟨h0, h1, h5, hj, hd, rfl⟩
    simp -implicitDefEqProofs only [go_sem, simprocAttr, h0, h1, h5]
    refine ax_cond2 ?_
    simp only [ev_tmp, ev_const, ev_func, upd_at, put_some, put_none, bndB_bool, Nat.reduceEqDiff, if_true, if_false, ↓reduceIte, reduceCtorEq]
    refine ⟨fun hc0 => have hx := of_decide_eq_true hc0; ?_, fun hc0 => have hx := of_decide_eq_false hc0; ?_⟩
    · obtain ⟨j, rfl⟩ : ∃ j', j = j' + 1 := ⟨j - 1, by omega⟩
      obtain ⟨b, i, c, rfl, hL⟩ := hv.at (by rintro rfl; simp at hj)
      obtain ⟨b', i', c', rfl, hM⟩ := hw.at (by rintro rfl; simp only [List.length_nil] at hlen; omega)
      have hr := hL.rd (k := j) (by omega)
      have hr' := hM.rd (k := j) (by omega)
      have hjj : ((j + 1 : Nat) : Int) - 1 = (j : Int) := by omega
      rw [hjj] at h5
      have hlt : (j : Int) < (l.length : Int) := by omega
      have hlt' : (j : Int) < (m.length : Int) := by omega
      have hnn : (0 : Int) ≤ (j : Int) := by omega
      simp -implicitDefEqProofs only [go_sem, simprocAttr]
      refine ax_quiet (by kernel_rfl) ?_
      simp -implicitDefEqProofs only [go_sem, simprocAttr, h0, h1, h5, aIndexAddr, hr, hr', hlt, hlt', hnn, Nat.mul_one]
      refine ax_cond2 ?_
      simp only [ev_tmp, ev_const, ev_func, upd_at, put_some, put_none, bndB_bool, Nat.reduceEqDiff, if_true, if_false, ↓reduceIte, reduceCtorEq]
      refine ⟨fun hc0 => have hy := of_decide_eq_true hc0; ?_, fun hc0 => have hy := of_decide_eq_false hc0; ?_⟩
      · have hh : n < k := by rw [← hn.val, ← hk.val]; exact valL_top hn.small (by omega) (by omega) hd (by omega)
        simp -implicitDefEqProofs only [go_sem, simprocAttr, res208]
        simp [cmpN, hh]
      · simp -implicitDefEqProofs only [go_sem, simprocAttr]
        refine ax_quiet (by kernel_rfl) ?_
        simp -implicitDefEqProofs only [go_sem, simprocAttr, h0, h1, h5, aIndexAddr, hr, hr', hlt, hlt', hnn, Nat.mul_one]
        refine ax_cond2 ?_
        simp only [ev_tmp, ev_const, ev_func, upd_at, put_some, put_none, bndB_bool, Nat.reduceEqDiff, if_true, if_false, ↓reduceIte, reduceCtorEq]
        refine ⟨fun hc0 => have hz := of_decide_eq_true hc0; ?_, fun hc0 => have hz := of_decide_eq_false hc0; ?_⟩
        · have hh : k < n := by rw [← hn.val, ← hk.val]; exact valL_top hk.small (by omega) (by omega) hd.symm (by omega)
          simp -implicitDefEqProofs only [go_sem, simprocAttr, res208]
          simp [cmpN, hh, Nat.lt_asymm hh]
        · simp -implicitDefEqProofs only [go_sem, simprocAttr, h0, h1, h5]
          refine ⟨j, ⟨by rw [w64 (by omega) (by omega)], by omega, ?_⟩, Nat.lt_succ_self j⟩
          rw [List.drop_eq_getElem_cons (show j < l.length by omega), List.drop_eq_getElem_cons (show j < m.length by omega), hd]
          congr 1
          omega
    · have hj0 : j = 0 := by omega
      subst hj0
      have : n = k := by rw [← hn.val, ← hk.val]; simpa using congrArg valL hd
      simp -implicitDefEqProofs only [go_sem, simprocAttr, res208]
      simp [cmpN, this]
end Go.Proofs.YthhmkaikopdmjaaGreat
namespace Go.Proofs.YthhmkaikopdmjaaGreat
open Go Go.Fw
theorem one_u32 (H : Heap) (x : Int) : aBuildSlice tt H 163 1 [(0, .int .u32 x)] = some (.slice (some ⟨H.length, 0, none⟩) 1 1, H ++ [⟨[.int .u32 x], 1, true⟩]) := rfl
theorem make_0 (H : Heap) (c : Nat) (hc : c ≤ 200000000) : aMakeSlice tt H 163 (.int .i64 0) (.int .i64 (c : Nat)) = some (.slice (some ⟨H.length, 0, none⟩) 0 c, H ++ [⟨u32s (List.replicate c 0), 1, true⟩]) := make_u32 H .i64 .i64 0 c (Nat.zero_le _) hc
theorem plus_sim {H : Heap} {v w : Value} {l m : List Nat} {n k : Nat} (hv : Lim H v l) (hw : Lim H w m) (hn : Canl l n) (hk : Canl m k) (hl : l.length ≤ 10000000) (hm : m.length ≤ 10000000) :
    ∃ u H', Sim Tryz.prog 246 #[v, w] H u H' ∧ Ext H H' ∧ LN H' u (n + k) := by
  have e1 := hv.len (tt := tt) tt163
  have e2 := hw.len (tt := tt) tt163
  refine sxA tok mixed Tryz.func246 ?_
  simp -implicitDefEqProofs only [go_sem, simprocAttr, -Int.reducePow, -Nat.reducePow, e1, e2]
  refine ax_mid (fun s H' => H' = H ∧ ∃ v w l m n' k', s 0 = v ∧ s 1 = w ∧ Lim H v l ∧ Lim H w m ∧ Canl l n' ∧ Canl m k' ∧ l.length ≤ 10000000 ∧ m.length ≤ l.length ∧ n' + k' = n + k) ?_ ?_
  · refine ax_cond2 ?_
    simp only [ev_tmp, ev_const, ev_func, upd_at, put_some, put_none, bndB_bool, Nat.reduceEqDiff, if_true, if_false, ↓reduceIte, reduceCtorEq]
    refine ⟨fun hc0 => have hc := of_decide_eq_true hc0; ?_, fun hc0 => have hc := of_decide_eq_false hc0; ?_⟩
    · simp -implicitDefEqProofs only [go_sem, simprocAttr, -Int.reducePow, -Nat.reducePow]
      exact ⟨w, v, m, l, k, n, rfl, rfl, hw, hv, hk, hn, hm, by omega, Nat.add_comm k n⟩
    · simp -implicitDefEqProofs only [go_sem, simprocAttr, -Int.reducePow, -Nat.reducePow]
      exact ⟨v, w, l, m, n, k, rfl, rfl, hv, hw, hn, hk, hl, by omega, rfl⟩
  clear hv hw hn hk hl hm e1 e2
  rintro s H' ⟨rfl, v, w, l, m, n', k', h0, h1, hv, hw, hn, hk, hl, hm, hnk⟩
  rw [← hnk]
  have e1 := hv.len (tt := tt) tt163
  have e2 := hw.len (tt := tt) tt163
  have e3 : IntKind.i64.wrap ((l.length : Int) + 1) = ((l.length + 1 : Nat) : Int) := by rw [w64 (by omega) (by omega)]; rfl
  simp -implicitDefEqProofs only [go_sem, simprocAttr, -Int.reducePow, -Nat.reducePow, h0, h1, e1, e2, e3, make_0 H' (l.length + 1) (by omega)]
  refine ax_loopx (fun (j : Nat) s T => ∃ (o : List Nat) (c : Nat), s 1 = w ∧ s 20 = v ∧ s 21 = .int .i64 (l.length : Nat) ∧ s 22 = .int .i64 (j : Nat) ∧ s 5 = .slice (some ⟨H'.length, 0, none⟩) j (l.length + 1) ∧ s 6 = .int .u64 (c : Nat) ∧
    j ≤ l.length ∧ c ≤ 1 ∧ o.length = l.length + 1 ∧ small o ∧ valL (o.take j) + 4294967296 ^ j * c = valL (l.take j) + valL (m.take j) ∧ Row T H'.length o ∧ Ext H' T) (fun j => l.length - j) 0 ?_ ?_
  · refine ⟨List.replicate (l.length + 1) 0, 0, ?_⟩
    simp -implicitDefEqProofs only [go_sem, simprocAttr, -Int.reducePow, -Nat.reducePow, h0, h1]
    exact ⟨by simp, small_zeros _, rfl, Row.new _ _, .app _ _⟩
  rintro j s T ⟨o, c, h1, h20, h21, h22, h5, h6, hj, hc, ho, hs, hval, hrow, hE⟩
  simp -implicitDefEqProofs only [go_sem, simprocAttr, -Int.reducePow, -Nat.reducePow, h1, h20, h21, h22]
  refine ax_cond2 ?_
  simp only [ev_tmp, ev_const, ev_func, upd_at, put_some, put_none, bndB_bool, Nat.reduceEqDiff, if_true, if_false, ↓reduceIte, reduceCtorEq]
  refine ⟨fun hc0 => have hlt := of_decide_eq_true hc0; ?_, fun hc0 => have hlt := of_decide_eq_false hc0; ?_⟩
  · obtain ⟨b, i, cp, rfl, hL⟩ := hv.at (by rintro rfl; simp only [List.length_nil] at hlt; omega)
    have hr := (hL.ext hE).rd (k := j) (by omega)
    have hx := small_get hn.small (k := j) (by omega)
    generalize hxx : l[j]'(by omega) = x at hr hx
    have hnn : (0 : Int) ≤ (j : Int) := by omega
    have a1 : IntKind.u64.wrap ((x : Nat) : Int) = (x : Int) := wu64n (by omega)
    have a2 : IntKind.u64.wrap ((c : Int) + (x : Int)) = ((c + x : Nat) : Int) := by rw [addc, wu64n (by omega)]
    simp -implicitDefEqProofs only [go_sem, simprocAttr, -Int.reducePow, -Nat.reducePow, h1, h5, h6, h20, h21, h22, aIndexAddr, hr, hlt, hnn, aConv, a1, a2, Nat.mul_one, e2]
    have hy := small_getD hk.small j
    have hvy := valL_take_getD m j
    generalize hyy : m.getD j 0 = y at hy hvy
    refine ax_mid (fun s T' => T' = T ∧ s 1 = w ∧ s 20 = .slice (some ⟨b, i, none⟩) l.length cp ∧ s 21 = .int .i64 (l.length : Nat) ∧ s 22 = .int .i64 (j : Nat) ∧ s 5 = .slice (some ⟨H'.length, 0, none⟩) j (l.length + 1) ∧ s 6 = .int .u64 ((c + x + y : Nat) : Int)) ?_ ?_
    · refine ax_cond2 ?_
      simp only [ev_tmp, ev_const, ev_func, upd_at, put_some, put_none, bndB_bool, Nat.reduceEqDiff, if_true, if_false, ↓reduceIte, reduceCtorEq]
      refine ⟨fun hc0 => have hd := of_decide_eq_true hc0; ?_, fun hc0 => have hd := of_decide_eq_false hc0; ?_⟩
      · obtain ⟨b', i', cp', rfl, hM⟩ := hw.at (by rintro rfl; simp only [List.length_nil] at hd; omega)
        have hr' := (hM.ext hE).rd (k := j) (by omega)
        have hmy : m[j]'(by omega) = y := by rw [← hyy]; simp [show j < m.length by omega]
        rw [hmy] at hr'
        have a3 : IntKind.u64.wrap ((y : Nat) : Int) = (y : Int) := wu64n (by omega)
        have a4 : IntKind.u64.wrap (((c + x : Nat) : Int) + (y : Int)) = ((c + x + y : Nat) : Int) := by rw [addc, wu64n (by omega)]
        simp -implicitDefEqProofs only [go_sem, simprocAttr, -Int.reducePow, -Nat.reducePow, h1, h5, h20, h21, h22, aIndexAddr, hr', hd, hnn, aConv, a3, a4, Nat.mul_one]
      · have : y = 0 := by rw [← hyy]; simp [show m.length ≤ j by omega]
        subst this
        simp -implicitDefEqProofs only [go_sem, simprocAttr, -Int.reducePow, -Nat.reducePow, h1, h5, h20, h21, h22]
    clear h1 h20 h21 h22 h5 h6
    rintro s T' ⟨rfl, h1, h20, h21, h22, h5, h6⟩
    have happ := Row.append (tt := tt) (x := (c + x + y) % 4294967296) tt163 tt161 rfl (by decide) (by decide) hrow (n := j) (by omega) (c := l.length + 1) (by omega) (by omega)
    have a5 : IntKind.i64.wrap ((j : Int) + 1) = ((j + 1 : Nat) : Int) := by rw [w64 (by omega) (by omega)]; rfl
    have h32 : ¬ ((32 : Int) < 0) := by omega
    have f32 := fdiv_pow (c + x + y) 32
    simp -implicitDefEqProofs only [go_sem, simprocAttr, -Int.reducePow, -Nat.reducePow, h1, h5, h6, h20, h21, h22, aConv, low_u32, one_u32, happ, h32, Int.reduceToNat, min_lit32, f32, a5, Nat.reducePow]
    refine ⟨j + 1, ⟨o.set j ((c + x + y) % 4294967296), (c + x + y) / 4294967296, ?_⟩, by omega⟩
    refine ⟨rfl, rfl, rfl, by omega, by omega, by simpa using ho, small_set hs (by omega), ?_, (hrow.app _).set, (hE.trans (.app _ _)).set (Nat.le_refl _) _⟩
    rw [valL_take_set (by omega), valL_take_succ (show j < l.length by omega), hvy, hxx, Nat.pow_succ]
    exact sum_step hval
  · have hjl : j = l.length := by omega
    subst hjl
    have happ := Row.append (tt := tt) (x := c % 4294967296) tt163 tt161 rfl (by decide) (by decide) hrow (n := l.length) (by omega) (c := l.length + 1) (by omega) (by omega)
    simp -implicitDefEqProofs only [go_sem, simprocAttr, -Int.reducePow, -Nat.reducePow, h5, h6, aConv, low_u32, one_u32, happ]
    have hrow2 := (hrow.app [⟨[Value.int .u32 ((c % 4294967296 : Nat) : Int)], 1, true⟩]).set (o' := o.set l.length (c % 4294967296))
    have hlim := (hrow2.at (c := l.length + 1) (l.length + 1) (.inr (Nat.le_refl _)) (by simp; omega) (by simp; omega)).lim
    rw [List.length_take, List.length_set, ho, Nat.min_self] at hlim
    obtain ⟨u, htr, hlu⟩ := trim_sim hlim
    refine wl_callF #[_] (by simp -implicitDefEqProofs only [go_sem, simprocAttr, -Int.reducePow, -Nat.reducePow]) htr (fun h => by cases h) ?_
    simp -implicitDefEqProofs only [go_sem, simprocAttr, -Int.reducePow, -Nat.reducePow, res246]
    refine ⟨(hE.trans (.app _ _)).set (Nat.le_refl _) _, _, hlu, ?_⟩
    have hfin := valL_take_set (x := c % 4294967296) (show l.length < o.length by omega)
    have hcn := Canl.of_trim (l := (o.set l.length (c % 4294967296)).take (l.length + 1)) (small_take (small_set hs (by omega)) _)
    rw [List.take_length] at hval
    have hmm : m.take l.length = m := List.take_of_length_le hm
    rw [hmm, hn.val, hk.val] at hval
    rw [hfin, Nat.mod_eq_of_lt (by omega), hval] at hcn
    rw [Nat.mod_eq_of_lt (show c < 4294967296 by omega)]
    exact hcn
end Go.Proofs.YthhmkaikopdmjaaGreat
namespace Go.Proofs.YthhmkaikopdmjaaGreat
open Go Go.Fw
def subD (x y b : Nat) : Nat := (x + 4294967296 - y + 4294967296 - b) % 4294967296
def subB (x y b : Nat) : Nat := if x < y + b then 1 else 0
theorem sub_eq {x y b : Nat} (hx : x < 4294967296) (hy : y < 4294967296) (hb : b ≤ 1) : subD x y b + y + b = x + 4294967296 * subB x y b := by
  unfold subD subB
  split <;> omega
theorem subD_lt (x y b : Nat) : subD x y b < 4294967296 := Nat.mod_lt _ (by decide)
theorem subB_le (x y b : Nat) : subB x y b ≤ 1 := by unfold subB; split <;> omega
theorem min_lit31 : min 31 32 = 31 := rfl
theorem sub32_sim {H : Heap} {x y b : Nat} (hx : x < 4294967296) (hy : y < 4294967296) (hb : b ≤ 1) :
    Sim Tryz.prog 269 #[.int .u32 (x : Nat), .int .u32 (y : Nat), .int .u32 (b : Nat)] H (.tuple #[.int .u32 (subD x y b : Nat), .int .u32 (subB x y b : Nat)]) H := by
  obtain ⟨d0, hd0⟩ : ∃ d0 : Nat, d0 = (x + 4294967296 - y) % 4294967296 := ⟨_, rfl⟩
  have e0 : IntKind.u32.wrap ((x : Int) - (y : Int)) = (d0 : Int) := by rw [IntKind.wrap_u32]; omega
  have e1 : IntKind.u32.wrap ((d0 : Int) - (b : Int)) = ((subD x y b : Nat) : Int) := by
    rw [IntKind.wrap_u32]; unfold subD; omega
  clear hd0
  have hd := subD_lt x y b
  have h31 : ¬ ((31 : Int) < 0) := by omega
  have a1 := xor_u32 (a := 4294967295) (b := x) (by decide) hx
  have l1 := Nat.xor_lt_two_pow (n := 32) (x := 4294967295) (y := x) (by decide) hx
  have a2 := and_u32 (b := y) l1 hy
  have a3 := xor_u32 hx hy
  have l3 := Nat.xor_lt_two_pow (n := 32) hx hy
  have a4 := xor_u32 (a := 4294967295) (by decide) l3
  have l4 := Nat.xor_lt_two_pow (n := 32) (x := 4294967295) (by decide) l3
  have a5 := and_u32 l4 hd
  have a6 := or_u32 (Nat.and_lt_two_pow (4294967295 ^^^ x) hy) (Nat.and_lt_two_pow (4294967295 ^^^ (x ^^^ y)) hd)
  have a7 := fdiv_pow ((4294967295 ^^^ x) &&& y ||| (4294967295 ^^^ (x ^^^ y)) &&& subD x y b) 31
  have a8 := borrow_bit hx hy hb (d := subD x y b) rfl
  rw [a8] at a7
  clear l1 l3 l4 a8
  generalize (4294967295 ^^^ x) &&& y ||| (4294967295 ^^^ (x ^^^ y)) &&& subD x y b = r at a6 a7
  generalize (4294967295 ^^^ (x ^^^ y)) &&& subD x y b = p5 at a5 a6
  generalize 4294967295 ^^^ (x ^^^ y) = p4 at a4 a5
  generalize x ^^^ y = p3 at a3 a4
  generalize (4294967295 ^^^ x) &&& y = p2 at a2 a6
  generalize 4294967295 ^^^ x = p1 at a1 a2
  generalize hdd : subD x y b = dd at *
  generalize hbb : subB x y b = bb
  unfold subB at hbb
  rw [hbb] at a7
  refine soA tok mixed Tryz.func269 ?_
  simp -implicitDefEqProofs only [go_sem, Nat.reduceAdd, Nat.reduceSub, Nat.reduceMul, Nat.reduceLT, Nat.reduceLeDiff, Nat.reduceEqDiff, Nat.reduceBEq, Nat.reduceGT, Nat.reduceMod, Nat.reduceDiv, ↓reduceIte, reduceCtorEq, Int.reduceLE, Int.reduceLT, Int.reduceToNat, Int.reduceEq, Int.reduceNeg, Int.reduceAdd, Int.reduceSub, Int.reduceMul, e0, h31, Int.reduceToNat, min_lit31, res269]
  simp only [e1, a1, a2, a3, a4, a5, a6, a7]
theorem minus_sim {H : Heap} {v w : Value} {l m : List Nat} {n k : Nat} (hv : Lim H v l) (hw : Lim H w m) (hn : Canl l n) (hk : Canl m k) (hl : l.length ≤ 10000000) (hnk : k ≤ n) :
    ∃ u H', Sim Tryz.prog 247 #[v, w] H u H' ∧ Ext H H' ∧ LN H' u (n - k) := by
  have e1 := hv.len (tt := tt) tt163
  have e2 := hw.len (tt := tt) tt163
  have hml : m.length ≤ l.length := Classical.byContradiction fun h => by have := hn.len_le hk (by omega); omega
  refine sxA tok mixed Tryz.func247 ?_
  simp -implicitDefEqProofs only [go_sem, Nat.reduceAdd, Nat.reduceSub, Nat.reduceMul, Nat.reduceLT, Nat.reduceLeDiff, Nat.reduceEqDiff, Nat.reduceBEq, Nat.reduceGT, Nat.reduceMod, Nat.reduceDiv, ↓reduceIte, reduceCtorEq, Int.reduceLE, Int.reduceLT, Int.reduceToNat, Int.reduceEq, Int.reduceNeg, Int.reduceAdd, Int.reduceSub, Int.reduceMul, e1, e2, make_u32 H .i64 .i64 _ _ (Nat.le_refl _) (show l.length ≤ 200000000 by omega)]
  refine ax_loopx (fun (j : Nat) s T => ∃ (o : List Nat) (c : Nat), s 1 = w ∧ s 13 = v ∧ s 14 = .int .i64 (l.length : Nat) ∧ s 15 = .int .i64 (j : Nat) ∧ s 5 = .slice (some ⟨H.length, 0, none⟩) l.length l.length ∧ s 6 = .int .u32 (c : Nat) ∧
    j ≤ l.length ∧ c ≤ 1 ∧ o.length = l.length ∧ small o ∧ valL (o.take j) + valL (m.take j) = valL (l.take j) + 4294967296 ^ j * c ∧ Row T H.length o ∧ Ext H T) (fun j => l.length - j) 0 ?_ ?_
  · refine ⟨List.replicate l.length 0, 0, ?_⟩
    simp -implicitDefEqProofs only [go_sem, Nat.reduceAdd, Nat.reduceSub, Nat.reduceMul, Nat.reduceLT, Nat.reduceLeDiff, Nat.reduceEqDiff, Nat.reduceBEq, Nat.reduceGT, Nat.reduceMod, Nat.reduceDiv, ↓reduceIte, reduceCtorEq, Int.reduceLE, Int.reduceLT, Int.reduceToNat, Int.reduceEq, Int.reduceNeg, Int.reduceAdd, Int.reduceSub, Int.reduceMul]
    exact ⟨by simp, small_zeros _, rfl, Row.new _ _, .app _ _⟩
  rintro j s T ⟨o, c, h1, h13, h14, h15, h5, h6, hj, hc, ho, hs, hval, hrow, hE⟩
  simp -implicitDefEqProofs only [go_sem, Nat.reduceAdd, Nat.reduceSub, Nat.reduceMul, Nat.reduceLT, Nat.reduceLeDiff, Nat.reduceEqDiff, Nat.reduceBEq, Nat.reduceGT, Nat.reduceMod, Nat.reduceDiv, ↓reduceIte, reduceCtorEq, Int.reduceLE, Int.reduceLT, Int.reduceToNat, Int.reduceEq, Int.reduceNeg, Int.reduceAdd, Int.reduceSub, Int.reduceMul, h1, h13, h14, h15]
  refine ax_cond2 ?_
  simp only [ev_tmp, ev_const, ev_func, upd_at, put_some, put_none, bndB_bool, Nat.reduceEqDiff, if_true, if_false, ↓reduceIte, reduceCtorEq]
  refine ⟨fun hc0 => have hlt := of_decide_eq_true hc0; ?_, fun hc0 => have hlt := of_decide_eq_false hc0; ?_⟩
  · obtain ⟨b, i, cp, rfl, hL⟩ := hv.at (by rintro rfl; simp only [List.length_nil] at hlt; omega)
    have hr := (hL.ext hE).rd (k := j) (by omega)
    have hx := small_get hn.small (k := j) (by omega)
    generalize hxx : l[j]'(by omega) = x at hr hx
    have hnn : (0 : Int) ≤ (j : Int) := by omega
    have hy := small_getD hk.small j
    have hvy := valL_take_getD m j
    generalize hyy : m.getD j 0 = y at hy hvy
    simp -implicitDefEqProofs only [go_sem, Nat.reduceAdd, Nat.reduceSub, Nat.reduceMul, Nat.reduceLT, Nat.reduceLeDiff, Nat.reduceEqDiff, Nat.reduceBEq, Nat.reduceGT, Nat.reduceMod, Nat.reduceDiv, ↓reduceIte, reduceCtorEq, Int.reduceLE, Int.reduceLT, Int.reduceToNat, Int.reduceEq, Int.reduceNeg, Int.reduceAdd, Int.reduceSub, Int.reduceMul, h1, h5, h6, h13, h14, h15, aIndexAddr, hr, hlt, hnn, Nat.mul_one, e2]
    refine ax_mid (fun s T' => T' = T ∧ s 1 = w ∧ s 13 = .slice (some ⟨b, i, none⟩) l.length cp ∧ s 14 = .int .i64 (l.length : Nat) ∧ s 15 = .int .i64 (j : Nat) ∧ s 5 = .slice (some ⟨H.length, 0, none⟩) l.length l.length ∧ s 6 = .int .u32 (c : Nat) ∧
      s 7 = .int .i64 (j : Nat) ∧ s 8 = .int .u32 (x : Nat) ∧ s 9 = .int .u32 (y : Nat)) ?_ ?_
    · refine ax_cond2 ?_
      simp only [ev_tmp, ev_const, ev_func, upd_at, put_some, put_none, bndB_bool, Nat.reduceEqDiff, if_true, if_false, ↓reduceIte, reduceCtorEq]
      refine ⟨fun hc0 => have hd := of_decide_eq_true hc0; ?_, fun hc0 => have hd := of_decide_eq_false hc0; ?_⟩
      · obtain ⟨b', i', cp', rfl, hM⟩ := hw.at (by rintro rfl; simp only [List.length_nil] at hd; omega)
        have hr' := (hM.ext hE).rd (k := j) (by omega)
        have hmy : m[j]'(by omega) = y := by rw [← hyy]; simp [show j < m.length by omega]
        rw [hmy] at hr'
        simp -implicitDefEqProofs only [go_sem, Nat.reduceAdd, Nat.reduceSub, Nat.reduceMul, Nat.reduceLT, Nat.reduceLeDiff, Nat.reduceEqDiff, Nat.reduceBEq, Nat.reduceGT, Nat.reduceMod, Nat.reduceDiv, ↓reduceIte, reduceCtorEq, Int.reduceLE, Int.reduceLT, Int.reduceToNat, Int.reduceEq, Int.reduceNeg, Int.reduceAdd, Int.reduceSub, Int.reduceMul, h1, h5, h6, h13, h14, h15, aIndexAddr, hr', hd, hnn, Nat.mul_one]
      · have : y = 0 := by rw [← hyy]; simp [show m.length ≤ j by omega]
        subst this
        simp -implicitDefEqProofs only [go_sem, Nat.reduceAdd, Nat.reduceSub, Nat.reduceMul, Nat.reduceLT, Nat.reduceLeDiff, Nat.reduceEqDiff, Nat.reduceBEq, Nat.reduceGT, Nat.reduceMod, Nat.reduceDiv, ↓reduceIte, reduceCtorEq, Int.reduceLE, Int.reduceLT, Int.reduceToNat, Int.reduceEq, Int.reduceNeg, Int.reduceAdd, Int.reduceSub, Int.reduceMul, h1, h5, h6, h13, h14, h15]
    clear h1 h13 h14 h15 h5 h6
    rintro s T' ⟨rfl, h1, h13, h14, h15, h5, h6, h7, h8, h9⟩
    simp -implicitDefEqProofs only [go_sem, Nat.reduceAdd, Nat.reduceSub, Nat.reduceMul, Nat.reduceLT, Nat.reduceLeDiff, Nat.reduceEqDiff, Nat.reduceBEq, Nat.reduceGT, Nat.reduceMod, Nat.reduceDiv, ↓reduceIte, reduceCtorEq, Int.reduceLE, Int.reduceLT, Int.reduceToNat, Int.reduceEq, Int.reduceNeg, Int.reduceAdd, Int.reduceSub, Int.reduceMul, h5, h6, h7, h8, h9]
    refine wl_callF #[.int .u32 (x : Nat), .int .u32 (y : Nat), .int .u32 (c : Nat)] (by simp -implicitDefEqProofs only [go_sem, Nat.reduceAdd, Nat.reduceSub, Nat.reduceMul, Nat.reduceLT, Nat.reduceLeDiff, Nat.reduceEqDiff, Nat.reduceBEq, Nat.reduceGT, Nat.reduceMod, Nat.reduceDiv, ↓reduceIte, reduceCtorEq, Int.reduceLE, Int.reduceLT, Int.reduceToNat, Int.reduceEq, Int.reduceNeg, Int.reduceAdd, Int.reduceSub, Int.reduceMul]) (sub32_sim hx hy hc) (fun h => by cases h) ?_
    have hlt2 : (j : Int) < (l.length : Int) := by omega
    have hsub := sub_eq hx hy hc
    have hdl := subD_lt x y c
    have hbl := subB_le x y c
    generalize subD x y c = d at hsub hdl ⊢
    generalize subB x y c = c' at hsub hbl ⊢
    have hw2 := hrow.wr (j := j) (x := d) (by omega)
    have a5 : IntKind.i64.wrap ((j : Int) + 1) = ((j + 1 : Nat) : Int) := by rw [w64 (by omega) (by omega)]; rfl
    simp -implicitDefEqProofs only [go_sem, Nat.reduceAdd, Nat.reduceSub, Nat.reduceMul, Nat.reduceLT, Nat.reduceLeDiff, Nat.reduceEqDiff, Nat.reduceBEq, Nat.reduceGT, Nat.reduceMod, Nat.reduceDiv, ↓reduceIte, reduceCtorEq, Int.reduceLE, Int.reduceLT, Int.reduceToNat, Int.reduceEq, Int.reduceNeg, Int.reduceAdd, Int.reduceSub, Int.reduceMul, h1, h13, h14, h15, h5, aIndexAddr, hlt2, hnn, Nat.mul_one, hw2]
    simp only [a5]
    refine ⟨j + 1, ⟨o.set j d, c', ?_⟩, by omega⟩
    refine ⟨rfl, rfl, by omega, hbl, by simpa using ho, small_set hs hdl, ?_, hrow.set, hE.set (Nat.le_refl _) _⟩
    rw [valL_take_set (by omega), valL_take_succ (show j < l.length by omega), hvy, hxx, Nat.pow_succ]
    have := congrArg (4294967296 ^ j * ·) hsub
    simp only [Nat.mul_add] at this
    rw [Nat.mul_assoc]
    omega
  · have hjl : j = l.length := by omega
    subst hjl
    rw [List.take_length, List.take_of_length_le hml, hn.val, hk.val, ← ho, List.take_length] at hval
    have hlt3 := valL_lt hs
    have hc0 : c = 0 := by
      rcases Nat.eq_zero_or_pos c with h | h
      · exact h
      · have : c = 1 := by omega
        subst this
        omega
    subst hc0
    have hlim := (hrow.at (c := l.length) l.length (.inr (Nat.le_refl _)) (by omega) (by omega)).lim
    rw [← ho, List.take_length] at hlim
    obtain ⟨u, htr, hlu⟩ := trim_sim hlim
    simp -implicitDefEqProofs only [go_sem, Nat.reduceAdd, Nat.reduceSub, Nat.reduceMul, Nat.reduceLT, Nat.reduceLeDiff, Nat.reduceEqDiff, Nat.reduceBEq, Nat.reduceGT, Nat.reduceMod, Nat.reduceDiv, ↓reduceIte, reduceCtorEq, Int.reduceLE, Int.reduceLT, Int.reduceToNat, Int.reduceEq, Int.reduceNeg, Int.reduceAdd, Int.reduceSub, Int.reduceMul, h5]
    rw [ho] at htr
    refine wl_callF #[_] (by simp -implicitDefEqProofs only [go_sem, Nat.reduceAdd, Nat.reduceSub, Nat.reduceMul, Nat.reduceLT, Nat.reduceLeDiff, Nat.reduceEqDiff, Nat.reduceBEq, Nat.reduceGT, Nat.reduceMod, Nat.reduceDiv, ↓reduceIte, reduceCtorEq, Int.reduceLE, Int.reduceLT, Int.reduceToNat, Int.reduceEq, Int.reduceNeg, Int.reduceAdd, Int.reduceSub, Int.reduceMul]) htr (fun h => by cases h) ?_
    simp -implicitDefEqProofs only [go_sem, Nat.reduceAdd, Nat.reduceSub, Nat.reduceMul, Nat.reduceLT, Nat.reduceLeDiff, Nat.reduceEqDiff, Nat.reduceBEq, Nat.reduceGT, Nat.reduceMod, Nat.reduceDiv, ↓reduceIte, reduceCtorEq, Int.reduceLE, Int.reduceLT, Int.reduceToNat, Int.reduceEq, Int.reduceNeg, Int.reduceAdd, Int.reduceSub, Int.reduceMul, res247]
    refine ⟨hE, _, hlu, ?_⟩
    have hcn := Canl.of_trim hs
    rw [show valL o = n - k by omega] at hcn
    exact hcn
end Go.Proofs.YthhmkaikopdmjaaGreat
namespace Go.Proofs.YthhmkaikopdmjaaGreat
open Go Go.Fw
theorem times_sim {H : Heap} {v w : Value} {l m : List Nat} {n k : Nat} (hv : Lim H v l) (hw : Lim H w m) (hn : Canl l n) (hk : Canl m k) (hl : l.length ≤ 10000000) (hm : m.length ≤ 10000000) :
    ∃ u H', Sim Tryz.prog 197 #[v, w] H u H' ∧ Ext H H' ∧ LN H' u (n * k) := by
  have e1 := hv.len (tt := tt) tt163
  have e2 := hw.len (tt := tt) tt163
  have e3 : IntKind.i64.wrap ((l.length : Int) + (m.length : Int)) = ((l.length + m.length : Nat) : Int) := by rw [addc, w64n (by omega)]
  refine sxA tok mixed Tryz.func197 ?_
  simp -implicitDefEqProofs only [go_sem, simprocAttr, -Int.reducePow, -Nat.reducePow, e1, e2, e3, make_u32 H .i64 .i64 _ _ (Nat.le_refl _) (show l.length + m.length ≤ 200000000 by omega)]
  refine ax_loopx (fun (i : Nat) s T => ∃ (o : List Nat), s 1 = w ∧ s 17 = v ∧ s 18 = .int .i64 (l.length : Nat) ∧ s 19 = .int .i64 (i : Nat) ∧ s 5 = .slice (some ⟨H.length, 0, none⟩) (l.length + m.length) (l.length + m.length) ∧
    i ≤ l.length ∧ o.length = l.length + m.length ∧ small o ∧ valL o = valL (l.take i) * k ∧ Row T H.length o ∧ Ext H T) (fun i => l.length - i) 0 ?_ ?_
  · refine ⟨List.replicate (l.length + m.length) 0, ?_⟩
    simp -implicitDefEqProofs only [go_sem, simprocAttr, -Int.reducePow, -Nat.reducePow]
    refine ⟨by simp, small_zeros _, by rw [valL_zeros]; simp [valL], Row.new _ _, .app _ _⟩
  rintro i s T ⟨o, h1, h17, h18, h19, h5, hi, ho, hs, hval, hrow, hE⟩
  simp -implicitDefEqProofs only [go_sem, simprocAttr, -Int.reducePow, -Nat.reducePow, h17, h18, h19]
  refine ax_cond2 ?_
  simp only [ev_tmp, ev_const, ev_func, upd_at, put_some, put_none, bndB_bool, Nat.reduceEqDiff, if_true, if_false, ↓reduceIte, reduceCtorEq]
  refine ⟨fun hc0 => have hlt := of_decide_eq_true hc0; ?_, fun hc0 => have hlt := of_decide_eq_false hc0; ?_⟩
  · obtain ⟨b, i0, cp, rfl, hL⟩ := hv.at (by rintro rfl; simp only [List.length_nil] at hlt; omega)
    have hr := (hL.ext hE).rd (k := i) (by omega)
    have hx := small_get hn.small (k := i) (by omega)
    generalize hxx : l[i]'(by omega) = x at hr hx
    have hnn : (0 : Int) ≤ (i : Int) := by omega
    simp -implicitDefEqProofs only [go_sem, simprocAttr, -Int.reducePow, -Nat.reducePow, h1, h5, h17, h18, h19, aIndexAddr, hr, hlt, hnn, Nat.mul_one, e2]
    have hbase : valL o < 4294967296 ^ (i + m.length) := by
      rw [hval, Nat.pow_add]
      have h1 := valL_lt (small_take hn.small i)
      rw [List.length_take, Nat.min_eq_left hi] at h1
      have h2 := hk.lt
      exact Nat.mul_lt_mul'' h1 h2
    have htop := top_zero hbase
    refine ax_loopx (fun (j : Nat) s T' => ∃ (o' : List Nat) (c : Nat), s 1 = w ∧ s 17 = .slice (some ⟨b, i0, none⟩) l.length cp ∧ s 18 = .int .i64 (l.length : Nat) ∧ s 19 = .int .i64 (i : Nat) ∧ s 5 = .slice (some ⟨H.length, 0, none⟩) (l.length + m.length) (l.length + m.length) ∧
      s 6 = .int .i64 (i : Nat) ∧ s 7 = .int .u32 (x : Nat) ∧ s 8 = .int .u64 (c : Nat) ∧ s 24 = w ∧ s 25 = .int .i64 (m.length : Nat) ∧ s 26 = .int .i64 (j : Nat) ∧ j ≤ m.length ∧ c < 4294967296 ∧ o'.length = l.length + m.length ∧ small o' ∧ o'.getD (i + m.length) 0 = 0 ∧
      valL o' + 4294967296 ^ (i + j) * c = valL o + 4294967296 ^ i * (x * valL (m.take j)) ∧ Row T' H.length o' ∧ Ext H T') (fun j => m.length - j) 0 ?_ ?_
    · refine ⟨o, 0, ?_⟩
      simp -implicitDefEqProofs only [go_sem, simprocAttr, -Int.reducePow, -Nat.reducePow, h1, h5, h17, h18, h19]
      refine ⟨ho, hs, htop, by simp [valL], hrow, hE⟩
    clear h1 h17 h18 h19 h5
    rintro j s T' ⟨o', c, h1, h17, h18, h19, h5, h6, h7, h8, h24, h25, h26, hj, hc, ho', hs', htop', hval', hrow', hE'⟩
    simp -implicitDefEqProofs only [go_sem, simprocAttr, -Int.reducePow, -Nat.reducePow, h1, h17, h18, h19, h5, h6, h7, h8, h24, h25, h26]
    refine ax_cond2 ?_
    simp only [ev_tmp, ev_const, ev_func, upd_at, put_some, put_none, bndB_bool, Nat.reduceEqDiff, if_true, if_false, ↓reduceIte, reduceCtorEq]
    refine ⟨fun hc0 => have hjm := of_decide_eq_true hc0; ?_, fun hc0 => have hjm := of_decide_eq_false hc0; ?_⟩
    · obtain ⟨b', i', cp', rfl, hM⟩ := hw.at (by rintro rfl; simp only [List.length_nil] at hjm; omega)
      have hr2 := (hM.ext hE').rd (k := j) (by omega)
      have hy := small_get hk.small (k := j) (by omega)
      have hvy := valL_take_succ (l := m) (k := j) (by omega)
      generalize hyy : m[j]'(by omega) = y at hr2 hy hvy
      have hro := hrow'.rd (j := i + j) (by omega)
      have hd := small_get hs' (k := i + j) (by omega)
      have hset := fun z => valL_set (l := o') (k := i + j) (x := z) (by omega)
      generalize hdd : o'[i + j]'(by omega) = d at hro hd hset
      have c1 := mul_carry hc hx hy hd
      have xy : x * y ≤ 4294967295 * 4294967295 := Nat.mul_le_mul (by omega) (by omega)
      have a1 : IntKind.u64.wrap ((x : Int) * (y : Int)) = ((x * y : Nat) : Int) := by rw [mulc, wu64n (by omega)]
      have a2 : IntKind.u64.wrap (((x * y : Nat) : Int) + (d : Int)) = ((x * y + d : Nat) : Int) := by rw [addc, wu64n (by omega)]
      have a3 : IntKind.u64.wrap ((c : Int) + ((x * y + d : Nat) : Int)) = ((c + (x * y + d) : Nat) : Int) := by rw [addc, wu64n (by omega)]
      have a4 := wu64n (n := x) (by omega)
      have a5 := wu64n (n := y) (by omega)
      have a6 := wu64n (n := d) (by omega)
      have a7 : IntKind.i64.wrap ((i : Int) + (j : Int)) = ((i + j : Nat) : Int) := by rw [addc, w64n (by omega)]
      have a8 : IntKind.i64.wrap ((j : Int) + 1) = ((j + 1 : Nat) : Int) := by rw [w64 (by omega) (by omega)]; rfl
      have hlt2 : ((i + j : Nat) : Int) < ((l.length + m.length : Nat) : Int) := by omega
      have hnn2 : (0 : Int) ≤ ((i + j : Nat) : Int) := by omega
      have hnn3 : (0 : Int) ≤ (j : Int) := by omega
      have hjm2 : (j : Int) < (m.length : Int) := by omega
      have ms := mul_step (A := valL o') (p := 4294967296 ^ (i + j)) (c := c) (x := x) (y := y) (d := d) hval' (A' := valL (o'.set (i + j) ((c + (x * y + d)) % 4294967296))) (hset _)
      generalize hww : c + (x * y + d) = ww at a3 c1 ms
      have a9 := low_u32 ww
      have a10 := fdiv_pow ww 32
      have hw2 := hrow'.wr (j := i + j) (x := ww % 4294967296) (by omega)
      have h32 : ¬ ((32 : Int) < 0) := by omega
      simp -implicitDefEqProofs only [go_sem, simprocAttr, -Int.reducePow, -Nat.reducePow, h1, h17, h18, h19, h5, h6, h7, h8, h24, h25, h26, aIndexAddr, hr2, hjm2, hnn3, Nat.mul_one, aConv, a1, a2, a3, a4, a5, a6, a7, a8, a9, a10, hro, hlt2, hnn2, hw2, h32, Int.reduceToNat, min_lit32]
      refine ⟨j + 1, ⟨o'.set (i + j) (ww % 4294967296), ww / 2 ^ 32, ?_⟩, by omega⟩
      refine ⟨rfl, rfl, by omega, ?_, by simpa using ho', small_set hs' (Nat.mod_lt _ (by decide)), ?_, ?_, hrow'.set, hE'.set (Nat.le_refl _) _⟩
      · exact Nat.div_lt_of_lt_mul c1
      · rw [List.getD_eq_getElem?_getD, List.getElem?_set_ne (by omega), ← List.getD_eq_getElem?_getD]; exact htop'
      · rw [hvy]
        rw [show i + (j + 1) = (i + j) + 1 by omega, Nat.pow_succ]
        refine ms.trans ?_
        rw [Nat.mul_add, Nat.mul_add, Nat.pow_add, Nat.mul_left_comm x, Nat.mul_assoc (4294967296 ^ i)]
        omega
    · have hjm3 : j = m.length := by omega
      subst hjm3
      rw [List.take_length, hk.val] at hval'
      have a3 : IntKind.i64.wrap ((i : Int) + (m.length : Int)) = ((i + m.length : Nat) : Int) := by rw [addc, w64n (by omega)]
      have a5 : IntKind.i64.wrap ((i : Int) + 1) = ((i + 1 : Nat) : Int) := by rw [w64 (by omega) (by omega)]; rfl
      have hlt2 : ((i + m.length : Nat) : Int) < ((l.length + m.length : Nat) : Int) := by omega
      have hnn2 : (0 : Int) ≤ ((i + m.length : Nat) : Int) := by omega
      have hw2 := hrow'.wr (j := i + m.length) (x := c) (by omega)
      have a6 : IntKind.u32.wrap (c : Int) = (c : Int) := wu32n hc
      simp -implicitDefEqProofs only [go_sem, simprocAttr, -Int.reducePow, -Nat.reducePow, h1, h17, h18, h19, h5, h6, h8, h24, h25, h26, e2, aConv, a3, a5, a6, aIndexAddr, hlt2, hnn2, Nat.mul_one, hw2]
      refine ⟨i + 1, ⟨o'.set (i + m.length) c, ?_⟩, by omega⟩
      refine ⟨rfl, by omega, by simpa using ho', small_set hs' hc, ?_, hrow'.set, hE'.set (Nat.le_refl _) _⟩
      have h9 := valL_set' (x := c) (show i + m.length < o'.length by omega)
      rw [htop', Nat.mul_zero, Nat.add_zero, hval', hval] at h9
      rw [h9, valL_take_succ (show i < l.length by omega), hxx, Nat.add_mul, Nat.mul_assoc]
  · have hil : i = l.length := by omega
    subst hil
    rw [List.take_length, hn.val] at hval
    have hlim := (hrow.at (c := l.length + m.length) (l.length + m.length) (.inr (Nat.le_refl _)) (by omega) (by omega)).lim
    rw [← ho, List.take_length] at hlim
    obtain ⟨u, htr, hlu⟩ := trim_sim hlim
    simp -implicitDefEqProofs only [go_sem, simprocAttr, -Int.reducePow, -Nat.reducePow, h5]
    rw [ho] at htr
    refine wl_callF #[_] (by simp only [go_sem, simprocAttr, -Int.reducePow, -Nat.reducePow]) htr (fun h => by cases h) ?_
    simp -implicitDefEqProofs only [go_sem, simprocAttr, -Int.reducePow, -Nat.reducePow, res197]
    refine ⟨hE, _, hlu, ?_⟩
    have hcn := Canl.of_trim hs
    rw [hval] at hcn
    exact hcn
end Go.Proofs.YthhmkaikopdmjaaGreat
set_option maxRecDepth 8000
namespace Go.Proofs.YthhmkaikopdmjaaGreat
open Go Go.Fw
theorem div32_sim {H : Heap} {hi lo y : Nat} (hh : hi < y) (hy : y < 4294967296) (hl : lo < 4294967296) :
    Sim Tryz.prog 275 #[.int .u32 (hi : Nat), .int .u32 (lo : Nat), .int .u32 (y : Nat)] H (.tuple #[.int .u32 ((hi * 4294967296 + lo) / y : Nat), .int .u32 ((hi * 4294967296 + lo) % y : Nat)]) H := by
  have y0 : ¬ ((y : Int) = 0) := by omega
  have y1 : ¬ ((y : Int) ≤ (hi : Int)) := by omega
  have c1 := wu64n (n := hi) (by omega)
  have c2 := wu64n (n := lo) (by omega)
  have c3 := wu64n (n := y) (by omega)
  have h32 : ¬ ((32 : Int) < 0) := by omega
  have a1 : IntKind.u64.wrap ((hi : Int) * 2 ^ 32) = ((hi * 2 ^ 32 : Nat) : Int) := by
    rw [show ((hi : Int) * 2 ^ 32) = ((hi * 2 ^ 32 : Nat) : Int) by simp, wu64n (by omega)]
  have a2 := or_u64 (a := hi * 2 ^ 32) (b := lo) (by omega) (by omega)
  have a3 : hi * 2 ^ 32 ||| lo = hi * 4294967296 + lo := by rw [Nat.or_comm, or_add (by omega)]; omega
  rw [a3] at a2
  have hq : (hi * 4294967296 + lo) / y < 4294967296 := by
    rw [Nat.div_lt_iff_lt_mul (by omega)]
    have : (hi + 1) * 4294967296 ≤ y * 4294967296 := Nat.mul_le_mul_right _ hh
    omega
  have hm : (hi * 4294967296 + lo) % y < y := Nat.mod_lt _ (by omega)
  have hz : hi * 4294967296 + lo < 18446744073709551616 := by omega
  generalize hi * 4294967296 + lo = z at *
  have t1 := tdiv_nat z y
  have t2 := tmod_nat z y
  generalize z / y = q at *
  generalize z % y = r at *
  have c4 := wu64n (n := q) (by omega)
  have c5 := wu32n (n := q) (by omega)
  have c6 := wu32n (n := r) (by omega)
  refine soA tok mixed Tryz.func275 ?_
  simp -implicitDefEqProofs only [go_sem, simprocAttr, -Int.reducePow, -Nat.reducePow, y0, y1]
  refine ax_cond2 ?_
  simp only [ev_tmp, ev_const, ev_func, upd_at, put_some, put_none, bndB_bool, Nat.reduceEqDiff, if_true, if_false, ↓reduceIte, reduceCtorEq]
  refine ⟨fun hc => hc.elim, fun _ => ?_⟩
  simp -implicitDefEqProofs only [go_sem, simprocAttr, -Int.reducePow, -Nat.reducePow, aConv, c1, c2, a1, a2, h32, min_lit32]
  refine ax_quiet (by kernel_rfl) ?_
  simp -implicitDefEqProofs only [go_sem, simprocAttr, -Int.reducePow, -Nat.reducePow, aConv, c3, c4, c5, c6, t1, t2, y0, res275]
theorem add32_sim {H : Heap} {x y c : Nat} (hx : x < 4294967296) (hy : y < 4294967296) (hc : c ≤ 1) :
    Sim Tryz.prog 276 #[.int .u32 (x : Nat), .int .u32 (y : Nat), .int .u32 (c : Nat)] H (.tuple #[.int .u32 ((x + y + c) % 4294967296 : Nat), .int .u32 ((x + y + c) / 4294967296 : Nat)]) H := by
  have c1 := wu64n (n := x) (by omega)
  have c2 := wu64n (n := y) (by omega)
  have c3 := wu64n (n := c) (by omega)
  have a1 : IntKind.u64.wrap ((x : Int) + (y : Int)) = ((x + y : Nat) : Int) := by rw [addc, wu64n (by omega)]
  have a2 : IntKind.u64.wrap (((x + y : Nat) : Int) + (c : Int)) = ((x + y + c : Nat) : Int) := by rw [addc, wu64n (by omega)]
  have hz : x + y + c < 8589934592 := by omega
  generalize x + y + c = z at *
  have a3 := low_u32 z
  have a4 := fdiv_pow z 32
  have h32 : ¬ ((32 : Int) < 0) := by omega
  have a5 : IntKind.u32.wrap ((z / 2 ^ 32 : Nat) : Int) = ((z / 4294967296 : Nat) : Int) := wu32n (by omega)
  refine soA tok mixed Tryz.func276 ?_
  simp -implicitDefEqProofs only [go_sem, simprocAttr, -Int.reducePow, -Nat.reducePow, aConv, c1, c2, c3, a1, a2, a3, a4, a5, h32, min_lit32, Int.reduceToNat, res276]
theorem short_sim {H : Heap} {v : Value} {l : List Nat} {n d : Nat} (hv : Lim H v l) (hn : Canl l n) (hl : l.length ≤ 10000000) (hd : d < 4294967296) (h0 : 0 < d) :
    ∃ u H', Sim Tryz.prog 262 #[v, .int .u32 (d : Nat)] H (.tuple #[u, .int .u32 (n % d : Nat)]) H' ∧ Ext H H' ∧ LN H' u (n / d) := by
  suffices hx : ∃ w H', Sim Tryz.prog 262 #[v, .int .u32 (d : Nat)] H w H' ∧ ∃ u, w = .tuple #[u, .int .u32 (n % d : Nat)] ∧ Ext H H' ∧ LN H' u (n / d) by
    obtain ⟨w, H', h1, u, rfl, h2⟩ := hx
    exact ⟨u, H', h1, h2⟩
  have e1 := hv.len (tt := tt) tt163
  have e2 : IntKind.i64.wrap ((l.length : Int) - 1) = (l.length : Int) - 1 := w64 (by omega) (by omega)
  refine sxA tok mixed Tryz.func262 ?_
  simp -implicitDefEqProofs only [go_sem, simprocAttr, -Int.reducePow, -Nat.reducePow, e1, e2, make_u32 H .i64 .i64 _ _ (Nat.le_refl _) (show l.length ≤ 200000000 by omega)]
  refine ax_loopx (fun (k : Nat) s T => ∃ (o : List Nat) (r : Nat), s 0 = v ∧ s 1 = .int .u32 (d : Nat) ∧ s 6 = .slice (some ⟨H.length, 0, none⟩) l.length l.length ∧ s 7 = .int .u32 (r : Nat) ∧ s 8 = .int .i64 ((k : Int) - 1) ∧
    k ≤ l.length ∧ r < d ∧ o.length = l.length ∧ small o ∧ valL (l.drop k) = valL (o.drop k) * d + r ∧ o.take k = List.replicate k 0 ∧ Row T H.length o ∧ Ext H T) id l.length ?_ ?_
  · refine ⟨List.replicate l.length 0, 0, ?_⟩
    simp -implicitDefEqProofs only [go_sem, simprocAttr, -Int.reducePow, -Nat.reducePow]
    exact ⟨h0, by simp, small_zeros _, by simp [valL], by simp, Row.new _ _, .app _ _⟩
  rintro k s T ⟨o, r, s0, s1, s6, s7, s8, hk, hr, ho, hs, hval, hz, hrow, hE⟩
  simp -implicitDefEqProofs only [go_sem, simprocAttr, -Int.reducePow, -Nat.reducePow, s8]
  refine ax_cond2 ?_
  simp only [ev_tmp, ev_const, ev_func, upd_at, put_some, put_none, bndB_bool, Nat.reduceEqDiff, if_true, if_false, ↓reduceIte, reduceCtorEq]
  refine ⟨fun hc0 => have hc := of_decide_eq_true hc0; ?_, fun hc0 => have hc := of_decide_eq_false hc0; ?_⟩
  · obtain ⟨k, rfl⟩ : ∃ k', k = k' + 1 := ⟨k - 1, by omega⟩
    obtain ⟨b, i, cp, rfl, hL⟩ := hv.at (by rintro rfl; simp at hk)
    have hrd := (hL.ext hE).rd (k := k) (by omega)
    have hx := small_get hn.small (k := k) (by omega)
    have hld := List.drop_eq_getElem_cons (l := l) (i := k) (by omega)
    generalize hxx : l[k]'(by omega) = x at hrd hx hld
    have hkk : ((k + 1 : Nat) : Int) - 1 = (k : Int) := by omega
    rw [hkk] at s8
    have hlt : (k : Int) < (l.length : Int) := by omega
    have hnn : (0 : Int) ≤ (k : Int) := by omega
    have a5 : IntKind.i64.wrap ((k : Int) - 1) = (k : Int) - 1 := w64 (by omega) (by omega)
    simp -implicitDefEqProofs only [go_sem, simprocAttr, -Int.reducePow, -Nat.reducePow, s0, s1, s6, s7, s8, aIndexAddr, hrd, hlt, hnn, Nat.mul_one]
    refine wl_callF #[.int .u32 (r : Nat), .int .u32 (x : Nat), .int .u32 (d : Nat)] (by simp -implicitDefEqProofs only [go_sem, simprocAttr, -Int.reducePow, -Nat.reducePow]) (div32_sim hr hd hx) (fun h => by cases h) ?_
    have hq : (r * 4294967296 + x) / d < 4294967296 := by
      rw [Nat.div_lt_iff_lt_mul h0]
      have : (r + 1) * 4294967296 ≤ d * 4294967296 := Nat.mul_le_mul_right _ hr
      omega
    have hm : (r * 4294967296 + x) % d < d := Nat.mod_lt _ h0
    have hdm := Nat.div_add_mod (r * 4294967296 + x) d
    generalize (r * 4294967296 + x) / d = q at hq hdm ⊢
    generalize (r * 4294967296 + x) % d = r' at hm hdm ⊢
    have hw := hrow.wr (j := k) (x := q) (by omega)
    simp -implicitDefEqProofs only [go_sem, simprocAttr, -Int.reducePow, -Nat.reducePow, s0, s1, s6, s8, aIndexAddr, hlt, hnn, Nat.mul_one, hw]
    simp only [a5]
    refine ⟨k, ⟨o.set k q, r', ?_⟩, Nat.lt_succ_self k⟩
    refine ⟨rfl, rfl, by omega, hm, by simpa using ho, small_set hs hq, ?_, ?_, hrow.set, hE.set (Nat.le_refl _) _⟩
    · have hod := List.drop_eq_getElem_cons (l := o.set k q) (i := k) (by simp; omega)
      rw [hld, hod, List.drop_set_of_lt (by omega)]
      simp only [valL, List.getElem_set_self]
      rw [hval, Nat.add_mul, Nat.mul_add, Nat.mul_assoc, Nat.mul_comm q d]
      omega
    · rw [List.take_set_of_le (Nat.le_refl _)]
      have := congrArg (List.take k) hz
      rw [List.take_take, Nat.min_eq_left (by omega)] at this
      rw [this]; simp
  · have hk0 : k = 0 := by omega
    subst hk0
    rw [List.drop_zero, List.drop_zero, hn.val] at hval
    have hlim := (hrow.at (c := l.length) l.length (.inr (Nat.le_refl _)) (by omega) (by omega)).lim
    rw [← ho, List.take_length] at hlim
    obtain ⟨u, htr, hlu⟩ := trim_sim hlim
    simp -implicitDefEqProofs only [go_sem, simprocAttr, -Int.reducePow, -Nat.reducePow, s6]
    rw [ho] at htr
    refine wl_callF #[_] (by simp -implicitDefEqProofs only [go_sem, simprocAttr, -Int.reducePow, -Nat.reducePow]) htr (fun h => by cases h) ?_
    simp -implicitDefEqProofs only [go_sem, simprocAttr, -Int.reducePow, -Nat.reducePow, s7, res262]
    have hcn := Canl.of_trim hs
    have e3 : n / d = valL o := by
      rw [hval, Nat.mul_comm, Nat.mul_add_div h0, Nat.div_eq_of_lt hr, Nat.add_zero]
    have e4 : n % d = r := by
      rw [hval, Nat.mul_comm, Nat.mul_add_mod, Nat.mod_eq_of_lt hr]
    rw [e3, e4]
    exact ⟨u, rfl, hE, _, hlu, hcn⟩
end Go.Proofs.YthhmkaikopdmjaaGreat
namespace Go.Proofs.YthhmkaikopdmjaaGreat
open Go Go.Fw
def bitLen (n : Nat) : Nat := if n = 0 then 0 else n.log2 + 1
theorem bitLen_bounds {y : Nat} (h : 0 < y) : 2 ^ (bitLen y - 1) ≤ y ∧ y < 2 ^ bitLen y ∧ 1 ≤ bitLen y := by
  unfold bitLen
  rw [if_neg (by omega)]
  exact ⟨Nat.log2_self_le (by omega), Nat.lt_log2_self, by omega⟩
theorem bitLen_le {y k : Nat} (h : 0 < y) (hy : y < 2 ^ k) : bitLen y ≤ k := by
  refine Classical.byContradiction fun hc => ?_
  have h1 := (bitLen_bounds h).1
  have h2 : 2 ^ k ≤ 2 ^ (bitLen y - 1) := Nat.pow_le_pow_right (by decide) (by omega)
  omega
theorem len32_sim {H : Heap} {x : Nat} (hx : x < 4294967296) (h0 : 0 < x) : ∃ L : Nat, 1 ≤ L ∧ L ≤ 32 ∧ 2 ^ (L - 1) ≤ x ∧ x < 2 ^ L ∧
    Sim Tryz.prog 185 #[.int .u32 (x : Nat)] H (.int .i64 (L : Nat)) H := by
  obtain ⟨a, y, ha, hy, hy0, hxy1, hxy2, hcase⟩ : ∃ a y : Nat, (a = 0 ∨ a = 8 ∨ a = 16 ∨ a = 24) ∧ y < 256 ∧ 0 < y ∧ 2 ^ a * y ≤ x ∧ x < 2 ^ a * (y + 1) ∧
      ((x < 256 ∧ a = 0 ∧ y = x) ∨ (256 ≤ x ∧ x < 65536 ∧ a = 8 ∧ y = x / 256) ∨ (65536 ≤ x ∧ x / 65536 < 256 ∧ a = 16 ∧ y = x / 65536) ∨ (65536 ≤ x ∧ 256 ≤ x / 65536 ∧ a = 24 ∧ y = x / 65536 / 256)) := by
    by_cases h1 : x < 65536
    · by_cases h2 : x < 256
      · exact ⟨0, x, by omega, by omega, by omega, by omega, by omega, by omega⟩
      · exact ⟨8, x / 256, by omega, by omega, by omega, by omega, by omega, by omega⟩
    · by_cases h2 : x / 65536 < 256
      · exact ⟨16, x / 65536, by omega, by omega, by omega, by omega, by omega, by omega⟩
      · exact ⟨24, x / 65536 / 256, by omega, by omega, by omega, by omega, by omega, by omega⟩
  have hb := bitLen_bounds hy0
  have hbl := bitLen_le hy0 (k := 8) hy
  refine ⟨a + bitLen y, by omega, by omega, ?_, ?_, ?_⟩
  · rw [show a + bitLen y - 1 = a + (bitLen y - 1) by omega, Nat.pow_add]
    exact Nat.le_trans (Nat.mul_le_mul_left _ hb.1) hxy1
  · rw [Nat.pow_add]
    exact Nat.lt_of_lt_of_le hxy2 (Nat.mul_le_mul_left _ hb.2.1)
  have h16 : ¬ ((16 : Int) < 0) := by omega
  have h8 : ¬ ((8 : Int) < 0) := by omega
  have f16 := fdiv_pow x 16
  have c3 : (0 : Int) ≤ (y : Int) := by omega
  have c4 : IntKind.u8.wrap (y : Int) = (y : Int) := wu8 (by omega) (by omega)
  have c5 : IntKind.i64.wrap ((a : Int) + (bitLen y : Int)) = ((a + bitLen y : Nat) : Int) := by rw [addc, w64n (by omega)]
  have c6 : IntKind.i64.wrap (((UInt8.ofNat (bitLen y)).toNat : Nat) : Int) = (bitLen y : Int) := by
    have : (UInt8.ofNat (bitLen y)).toNat = bitLen y := by simp; omega
    rw [this, w64n (by omega)]
  have b16 : (16 : Int) = ((16 : Nat) : Int) := rfl
  have key : ∀ (B : ByteArray), (∀ z : Fin 256, B[z.1]? = some (UInt8.ofNat (bitLen z.1))) → B[y]? = some (UInt8.ofNat (bitLen y)) := fun B h => h ⟨y, hy⟩
  refine soA tok mixed Tryz.func185 ?_
  generalize hB : (⟨(List.toArray _)⟩ : ByteArray) = B
  have hg := key B (by rw [← hB]; decide +kernel)
  clear hB key
  rcases hcase with ⟨k1, rfl, rfl⟩ | ⟨k1, k2, rfl, k3⟩ | ⟨k1, k2, rfl, k3⟩ | ⟨k1, k2, rfl, k3⟩
  · have d1 : ¬ ((65536 : Int) ≤ (y : Int)) := by omega
    have d2 : ¬ ((256 : Int) ≤ (y : Int)) := by omega
    simp -implicitDefEqProofs only [go_sem, Nat.reduceAdd, Nat.reduceSub, Nat.reduceMul, Nat.reduceLT, Nat.reduceLeDiff, Nat.reduceEqDiff, Nat.reduceBEq, Nat.reduceGT, Nat.reduceMod, Nat.reduceDiv, ↓reduceIte, reduceCtorEq, Int.reduceLE, Int.reduceLT, Int.reduceToNat, Int.reduceEq, Int.reduceNeg, Int.reduceAdd, Int.reduceSub, Int.reduceMul, d1]
    refine ax_cond2 ?_
    simp only [ev_tmp, ev_const, ev_func, upd_at, put_some, put_none, bndB_bool, Nat.reduceEqDiff, if_true, if_false, ↓reduceIte, reduceCtorEq]
    refine ⟨fun hc => hc.elim, fun _ => ?_⟩
    simp -implicitDefEqProofs only [go_sem, Nat.reduceAdd, Nat.reduceSub, Nat.reduceMul, Nat.reduceLT, Nat.reduceLeDiff, Nat.reduceEqDiff, Nat.reduceBEq, Nat.reduceGT, Nat.reduceMod, Nat.reduceDiv, ↓reduceIte, reduceCtorEq, Int.reduceLE, Int.reduceLT, Int.reduceToNat, Int.reduceEq, Int.reduceNeg, Int.reduceAdd, Int.reduceSub, Int.reduceMul, d2]
    refine ax_cond2 ?_
    simp only [ev_tmp, ev_const, ev_func, upd_at, put_some, put_none, bndB_bool, Nat.reduceEqDiff, if_true, if_false, ↓reduceIte, reduceCtorEq]
    refine ⟨fun hc => hc.elim, fun _ => ?_⟩
    rw [cast0, Int.zero_add] at c5
    simp -implicitDefEqProofs only [go_sem, Nat.reduceAdd, Nat.reduceSub, Nat.reduceMul, Nat.reduceLT, Nat.reduceLeDiff, Nat.reduceEqDiff, Nat.reduceBEq, Nat.reduceGT, Nat.reduceMod, Nat.reduceDiv, ↓reduceIte, reduceCtorEq, Int.reduceLE, Int.reduceLT, Int.reduceToNat, Int.reduceEq, Int.reduceNeg, Int.reduceAdd, Int.reduceSub, Int.reduceMul, aConv, c3, c4, hg, c6, Int.zero_add, Nat.zero_add, res185]
    simp only [c5, Nat.zero_add]
  · have d1 : ¬ ((65536 : Int) ≤ (x : Int)) := by omega
    have d2 : (256 : Int) ≤ (x : Int) := by omega
    have f8 := fdiv_pow x 8
    have f8' : x / 2 ^ 8 = y := by omega
    rw [f8'] at f8
    simp -implicitDefEqProofs only [go_sem, Nat.reduceAdd, Nat.reduceSub, Nat.reduceMul, Nat.reduceLT, Nat.reduceLeDiff, Nat.reduceEqDiff, Nat.reduceBEq, Nat.reduceGT, Nat.reduceMod, Nat.reduceDiv, ↓reduceIte, reduceCtorEq, Int.reduceLE, Int.reduceLT, Int.reduceToNat, Int.reduceEq, Int.reduceNeg, Int.reduceAdd, Int.reduceSub, Int.reduceMul, d1]
    refine ax_cond2 ?_
    simp only [ev_tmp, ev_const, ev_func, upd_at, put_some, put_none, bndB_bool, Nat.reduceEqDiff, if_true, if_false, ↓reduceIte, reduceCtorEq]
    refine ⟨fun hc => hc.elim, fun _ => ?_⟩
    simp -implicitDefEqProofs only [go_sem, Nat.reduceAdd, Nat.reduceSub, Nat.reduceMul, Nat.reduceLT, Nat.reduceLeDiff, Nat.reduceEqDiff, Nat.reduceBEq, Nat.reduceGT, Nat.reduceMod, Nat.reduceDiv, ↓reduceIte, reduceCtorEq, Int.reduceLE, Int.reduceLT, Int.reduceToNat, Int.reduceEq, Int.reduceNeg, Int.reduceAdd, Int.reduceSub, Int.reduceMul, d2]
    refine ax_cond2 ?_
    simp only [ev_tmp, ev_const, ev_func, upd_at, put_some, put_none, bndB_bool, Nat.reduceEqDiff, if_true, if_false, ↓reduceIte, reduceCtorEq]
    refine ⟨fun _ => ?_, fun hc => hc.elim⟩
    simp -implicitDefEqProofs only [go_sem, Nat.reduceAdd, Nat.reduceSub, Nat.reduceMul, Nat.reduceLT, Nat.reduceLeDiff, Nat.reduceEqDiff, Nat.reduceBEq, Nat.reduceGT, Nat.reduceMod, Nat.reduceDiv, ↓reduceIte, reduceCtorEq, Int.reduceLE, Int.reduceLT, Int.reduceToNat, Int.reduceEq, Int.reduceNeg, Int.reduceAdd, Int.reduceSub, Int.reduceMul, aConv, c3, c4, hg, c6, h8, f8, min_lit8, Int.zero_add, show IntKind.i64.wrap 8 = ((8 : Nat) : Int) from rfl, c5, res185]
  · have d1 : ((65536 : Int) ≤ (x : Int)) := by omega
    have d2 : ¬ (256 : Int) ≤ (y : Int) := by omega
    have f8' : x / 2 ^ 16 = y := by omega
    rw [f8'] at f16
    simp -implicitDefEqProofs only [go_sem, Nat.reduceAdd, Nat.reduceSub, Nat.reduceMul, Nat.reduceLT, Nat.reduceLeDiff, Nat.reduceEqDiff, Nat.reduceBEq, Nat.reduceGT, Nat.reduceMod, Nat.reduceDiv, ↓reduceIte, reduceCtorEq, Int.reduceLE, Int.reduceLT, Int.reduceToNat, Int.reduceEq, Int.reduceNeg, Int.reduceAdd, Int.reduceSub, Int.reduceMul, d1]
    refine ax_cond2 ?_
    simp only [ev_tmp, ev_const, ev_func, upd_at, put_some, put_none, bndB_bool, Nat.reduceEqDiff, if_true, if_false, ↓reduceIte, reduceCtorEq]
    refine ⟨fun _ => ?_, fun hc => hc.elim⟩
    simp -implicitDefEqProofs only [go_sem, Nat.reduceAdd, Nat.reduceSub, Nat.reduceMul, Nat.reduceLT, Nat.reduceLeDiff, Nat.reduceEqDiff, Nat.reduceBEq, Nat.reduceGT, Nat.reduceMod, Nat.reduceDiv, ↓reduceIte, reduceCtorEq, Int.reduceLE, Int.reduceLT, Int.reduceToNat, Int.reduceEq, Int.reduceNeg, Int.reduceAdd, Int.reduceSub, Int.reduceMul, h16, f16, min_lit16, d2]
    refine ax_cond2 ?_
    simp only [ev_tmp, ev_const, ev_func, upd_at, put_some, put_none, bndB_bool, Nat.reduceEqDiff, if_true, if_false, ↓reduceIte, reduceCtorEq]
    refine ⟨fun hc => hc.elim, fun _ => ?_⟩
    rw [← b16] at c5
    simp -implicitDefEqProofs only [go_sem, Nat.reduceAdd, Nat.reduceSub, Nat.reduceMul, Nat.reduceLT, Nat.reduceLeDiff, Nat.reduceEqDiff, Nat.reduceBEq, Nat.reduceGT, Nat.reduceMod, Nat.reduceDiv, ↓reduceIte, reduceCtorEq, Int.reduceLE, Int.reduceLT, Int.reduceToNat, Int.reduceEq, Int.reduceNeg, Int.reduceAdd, Int.reduceSub, Int.reduceMul, aConv, c3, c4, hg, c6, c5, res185]
  · have d1 : ((65536 : Int) ≤ (x : Int)) := by omega
    have d2 : (256 : Int) ≤ ((x / 2 ^ 16 : Nat) : Int) := by omega
    have f8 := fdiv_pow (x / 2 ^ 16) 8
    have f8' : x / 2 ^ 16 / 2 ^ 8 = y := by omega
    rw [f8'] at f8
    simp -implicitDefEqProofs only [go_sem, Nat.reduceAdd, Nat.reduceSub, Nat.reduceMul, Nat.reduceLT, Nat.reduceLeDiff, Nat.reduceEqDiff, Nat.reduceBEq, Nat.reduceGT, Nat.reduceMod, Nat.reduceDiv, ↓reduceIte, reduceCtorEq, Int.reduceLE, Int.reduceLT, Int.reduceToNat, Int.reduceEq, Int.reduceNeg, Int.reduceAdd, Int.reduceSub, Int.reduceMul, d1]
    refine ax_cond2 ?_
    simp only [ev_tmp, ev_const, ev_func, upd_at, put_some, put_none, bndB_bool, Nat.reduceEqDiff, if_true, if_false, ↓reduceIte, reduceCtorEq]
    refine ⟨fun _ => ?_, fun hc => hc.elim⟩
    simp -implicitDefEqProofs only [go_sem, Nat.reduceAdd, Nat.reduceSub, Nat.reduceMul, Nat.reduceLT, Nat.reduceLeDiff, Nat.reduceEqDiff, Nat.reduceBEq, Nat.reduceGT, Nat.reduceMod, Nat.reduceDiv, ↓reduceIte, reduceCtorEq, Int.reduceLE, Int.reduceLT, Int.reduceToNat, Int.reduceEq, Int.reduceNeg, Int.reduceAdd, Int.reduceSub, Int.reduceMul, h16, f16, min_lit16, d2]
    refine ax_cond2 ?_
    simp only [ev_tmp, ev_const, ev_func, upd_at, put_some, put_none, bndB_bool, Nat.reduceEqDiff, if_true, if_false, ↓reduceIte, reduceCtorEq]
    refine ⟨fun _ => ?_, fun hc => hc.elim⟩
    simp -implicitDefEqProofs only [go_sem, Nat.reduceAdd, Nat.reduceSub, Nat.reduceMul, Nat.reduceLT, Nat.reduceLeDiff, Nat.reduceEqDiff, Nat.reduceBEq, Nat.reduceGT, Nat.reduceMod, Nat.reduceDiv, ↓reduceIte, reduceCtorEq, Int.reduceLE, Int.reduceLT, Int.reduceToNat, Int.reduceEq, Int.reduceNeg, Int.reduceAdd, Int.reduceSub, Int.reduceMul, aConv, c3, c4, hg, c6, h8, f8, min_lit8, show IntKind.i64.wrap 24 = ((24 : Nat) : Int) from rfl, c5, res185]
theorem lead_sim {H : Heap} {x : Nat} (hx : x < 4294967296) (h0 : 0 < x) : ∃ k : Nat, k ≤ 31 ∧ 2147483648 ≤ x * 2 ^ k ∧ x * 2 ^ k < 4294967296 ∧
    Sim Tryz.prog 263 #[.int .u32 (x : Nat)] H (.int .i64 (k : Nat)) H := by
  obtain ⟨L, h1, h2, h3, h4, hsim⟩ := len32_sim (H := H) hx h0
  have e : IntKind.i64.wrap (32 - (L : Int)) = ((32 - L : Nat) : Int) := by rw [w64 (by omega) (by omega)]; omega
  refine ⟨32 - L, by omega, ?_, ?_, ?_⟩
  · have : 2 ^ (L - 1) * 2 ^ (32 - L) ≤ x * 2 ^ (32 - L) := Nat.mul_le_mul_right _ h3
    rw [← Nat.pow_add, show L - 1 + (32 - L) = 31 by omega] at this
    exact this
  · have : x * 2 ^ (32 - L) < 2 ^ L * 2 ^ (32 - L) := Nat.mul_lt_mul_of_pos_right h4 (Nat.pow_pos (by decide))
    rw [← Nat.pow_add, show L + (32 - L) = 32 by omega] at this
    exact this
  refine soA tok mixed Tryz.func263 ?_
  simp -implicitDefEqProofs only [go_sem, Nat.reduceAdd, Nat.reduceSub, Nat.reduceMul, Nat.reduceLT, Nat.reduceLeDiff, Nat.reduceEqDiff, Nat.reduceBEq, Nat.reduceGT, Nat.reduceMod, Nat.reduceDiv, ↓reduceIte, reduceCtorEq, Int.reduceLE, Int.reduceLT, Int.reduceToNat, Int.reduceEq, Int.reduceNeg, Int.reduceAdd, Int.reduceSub, Int.reduceMul]
  refine wl_callF #[.int .u32 (x : Nat)] (by simp -implicitDefEqProofs only [go_sem, Nat.reduceAdd, Nat.reduceSub, Nat.reduceMul, Nat.reduceLT, Nat.reduceLeDiff, Nat.reduceEqDiff, Nat.reduceBEq, Nat.reduceGT, Nat.reduceMod, Nat.reduceDiv, ↓reduceIte, reduceCtorEq, Int.reduceLE, Int.reduceLT, Int.reduceToNat, Int.reduceEq, Int.reduceNeg, Int.reduceAdd, Int.reduceSub, Int.reduceMul]) hsim (fun h => by cases h) ?_
  simp -implicitDefEqProofs only [go_sem, Nat.reduceAdd, Nat.reduceSub, Nat.reduceMul, Nat.reduceLT, Nat.reduceLeDiff, Nat.reduceEqDiff, Nat.reduceBEq, Nat.reduceGT, Nat.reduceMod, Nat.reduceDiv, ↓reduceIte, reduceCtorEq, Int.reduceLE, Int.reduceLT, Int.reduceToNat, Int.reduceEq, Int.reduceNeg, Int.reduceAdd, Int.reduceSub, Int.reduceMul, e, res263]
theorem shl_low (x k : Nat) (hk : k ≤ 32) : (x * 2 ^ k) % 4294967296 = (x % 2 ^ (32 - k)) * 2 ^ k := by
  rw [show (4294967296 : Nat) = 2 ^ (32 - k) * 2 ^ k by rw [← Nat.pow_add, show 32 - k + k = 32 by omega], Nat.mul_mod_mul_right]
theorem shift_sim {H : Heap} {v : Value} {l : List Nat} {n k : Nat} (hv : Lim H v l) (hn : small l) (hval : valL l = n) (hl : l.length ≤ 10000000) (hk : k ≤ 31) :
    ∃ H' o, Sim Tryz.prog 264 #[v, .int .i64 (k : Nat)] H (.slice (some ⟨H.length, 0, none⟩) (l.length + 1) (l.length + 1)) H' ∧ Ext H H' ∧ Row H' H.length o ∧ o.length = l.length + 1 ∧ small o ∧ valL o = n * 2 ^ k := by
  suffices hx : ∃ w H', Sim Tryz.prog 264 #[v, .int .i64 (k : Nat)] H w H' ∧ w = .slice (some ⟨H.length, 0, none⟩) (l.length + 1) (l.length + 1) ∧ Ext H H' ∧ ∃ o, Row H' H.length o ∧ o.length = l.length + 1 ∧ small o ∧ valL o = n * 2 ^ k by
    obtain ⟨w, H', h1, rfl, h2, o, h3⟩ := hx
    exact ⟨H', o, h1, h2, h3⟩
  have e1 := hv.len (tt := tt) tt163
  have e2 : IntKind.i64.wrap ((l.length : Int) + 1) = ((l.length + 1 : Nat) : Int) := by rw [w64 (by omega) (by omega)]; rfl
  refine sxA tok mixed Tryz.func264 ?_
  simp -implicitDefEqProofs only [go_sem, Nat.reduceAdd, Nat.reduceSub, Nat.reduceMul, Nat.reduceLT, Nat.reduceLeDiff, Nat.reduceEqDiff, Nat.reduceBEq, Nat.reduceGT, Nat.reduceMod, Nat.reduceDiv, ↓reduceIte, reduceCtorEq, Int.reduceLE, Int.reduceLT, Int.reduceToNat, Int.reduceEq, Int.reduceNeg, Int.reduceAdd, Int.reduceSub, Int.reduceMul, e1, e2, make_u32 H .i64 .i64 _ _ (Nat.le_refl _) (show l.length + 1 ≤ 200000000 by omega)]
  refine ax_loopx (fun (i : Nat) s T => ∃ (o : List Nat) (c : Nat), s 1 = .int .i64 (k : Nat) ∧ s 5 = .slice (some ⟨H.length, 0, none⟩) (l.length + 1) (l.length + 1) ∧ s 13 = v ∧ s 14 = .int .i64 (l.length : Nat) ∧ s 15 = .int .i64 (i : Nat) ∧
    i ≤ l.length ∧ o.length = l.length + 1 ∧ small o ∧ c < 2 ^ k ∧ o.drop i = c :: List.replicate (l.length - i) 0 ∧ valL (o.take i) + 4294967296 ^ i * c = valL (l.take i) * 2 ^ k ∧ Row T H.length o ∧ Ext H T) (fun i => l.length - i) 0 ?_ ?_
  · refine ⟨List.replicate (l.length + 1) 0, 0, ?_⟩
    simp -implicitDefEqProofs only [go_sem, Nat.reduceAdd, Nat.reduceSub, Nat.reduceMul, Nat.reduceLT, Nat.reduceLeDiff, Nat.reduceEqDiff, Nat.reduceBEq, Nat.reduceGT, Nat.reduceMod, Nat.reduceDiv, ↓reduceIte, reduceCtorEq, Int.reduceLE, Int.reduceLT, Int.reduceToNat, Int.reduceEq, Int.reduceNeg, Int.reduceAdd, Int.reduceSub, Int.reduceMul]
    exact ⟨by simp, small_zeros _, Nat.pow_pos (by decide), by simp [List.replicate_succ], by simp [valL], Row.new _ _, .app _ _⟩
  rintro i s T ⟨o, c, h1, h5, h13, h14, h15, hi, ho, hs, hc, hd, hvl, hrow, hE⟩
  simp -implicitDefEqProofs only [go_sem, Nat.reduceAdd, Nat.reduceSub, Nat.reduceMul, Nat.reduceLT, Nat.reduceLeDiff, Nat.reduceEqDiff, Nat.reduceBEq, Nat.reduceGT, Nat.reduceMod, Nat.reduceDiv, ↓reduceIte, reduceCtorEq, Int.reduceLE, Int.reduceLT, Int.reduceToNat, Int.reduceEq, Int.reduceNeg, Int.reduceAdd, Int.reduceSub, Int.reduceMul, h13, h14, h15]
  refine ax_cond2 ?_
  simp only [ev_tmp, ev_const, ev_func, upd_at, put_some, put_none, bndB_bool, Nat.reduceEqDiff, if_true, if_false, ↓reduceIte, reduceCtorEq]
  refine ⟨fun hc0 => have hlt := of_decide_eq_true hc0; ?_, fun hc0 => have hlt := of_decide_eq_false hc0; ?_⟩
  · obtain ⟨b, i0, cp, rfl, hL⟩ := hv.at (by rintro rfl; simp only [List.length_nil] at hlt; omega)
    have hr := (hL.ext hE).rd (k := i) (by omega)
    have hx := small_get hn (k := i) (by omega)
    have hts := valL_take_succ (l := l) (k := i) (by omega)
    generalize hxx : l[i]'(by omega) = x at hr hx hts
    have hnn : (0 : Int) ≤ (i : Int) := by omega
    have hlt2 : (i : Int) < ((l.length + 1 : Nat) : Int) := by omega
    have hlt3 : ((i + 1 : Nat) : Int) < ((l.length + 1 : Nat) : Int) := by omega
    have hnn3 : (0 : Int) ≤ ((i + 1 : Nat) : Int) := by omega
    have hk0 : ¬ ((k : Int) < 0) := by omega
    have h32 : ¬ ((32 : Int) < 0) := by omega
    have hp : 2 ^ k ≤ 2 ^ 31 := Nat.pow_le_pow_right (by decide) hk
    have hxk : x * 2 ^ k ≤ 4294967295 * 2 ^ 31 := Nat.mul_le_mul (by omega) hp
    have hmin : min k 64 = k := by omega
    have a1 : IntKind.u64.wrap ((x : Int) * 2 ^ k) = ((x * 2 ^ k : Nat) : Int) := by
      rw [show ((x : Int) * 2 ^ k) = ((x * 2 ^ k : Nat) : Int) by simp, wu64n (by omega)]
    have a0 := wu64n (n := x) (by omega)
    have hoc : o[i]'(by omega) = c := by
      have := List.drop_eq_getElem_cons (l := o) (i := i) (by omega)
      rw [hd] at this
      exact (List.cons.inj this).1.symm
    have hoz : o.drop (i + 1) = List.replicate (l.length - i) 0 := by
      have := List.drop_eq_getElem_cons (l := o) (i := i) (by omega)
      rw [hd] at this
      exact (List.cons.inj this).2.symm
    have hro := hrow.rd (j := i) (by omega)
    rw [hoc] at hro
    have a2 := low_u32 (x * 2 ^ k)
    have a3 := fdiv_pow (x * 2 ^ k) 32
    have hsl := shl_low x k (by omega)
    have hc32 : c < 2 ^ 32 := by omega
    have a4 : orI .u32 (c : Int) ((x * 2 ^ k % 4294967296 : Nat) : Int) = ((c + x * 2 ^ k % 4294967296 : Nat) : Int) := by
      rw [or_u32 hc32 (by omega), hsl, or_add hc]
    have hsum : c + x * 2 ^ k % 4294967296 < 4294967296 := by
      have : c + x * 2 ^ k % 4294967296 = c ||| (x * 2 ^ k % 4294967296) := by rw [hsl, or_add hc]
      rw [this]
      exact Nat.or_lt_two_pow (n := 32) hc32 (by omega)
    have hhi : x * 2 ^ k / 4294967296 < 2 ^ k := by
      rw [Nat.div_lt_iff_lt_mul (by decide), Nat.mul_comm]
      exact Nat.mul_lt_mul_of_pos_left hx (Nat.pow_pos (by decide))
    have hdm := Nat.div_add_mod (x * 2 ^ k) 4294967296
    have hdiv : x * 2 ^ k / 2 ^ 32 = x * 2 ^ k / 4294967296 := rfl
    rw [hdiv] at a3
    rw [show c + x * 2 ^ k % 4294967296 = c + x * 2 ^ k % 4294967296 from rfl] at a4
    have hmul : 4294967296 ^ i * (x * 2 ^ k) = 4294967296 ^ i * x * 2 ^ k := by rw [Nat.mul_assoc]
    generalize x * 2 ^ k % 4294967296 = lo at *
    generalize x * 2 ^ k / 4294967296 = hi2 at *
    have a6 := wu32n (n := hi2) (by omega)
    have hw1 := hrow.wr (j := i) (x := c + lo) (by omega)
    have hrow2 : Row _ H.length _ := hrow.set (o' := o.set i (c + lo))
    have hE2 := hE.set (Nat.le_refl H.length) (B := ⟨u32s (o.set i (c + lo)), 1, true⟩)
    have hw2 := hrow2.wr (j := i + 1) (x := hi2) (by simp; omega)
    have a7 : IntKind.i64.wrap ((i : Int) + 1) = ((i + 1 : Nat) : Int) := by rw [w64 (by omega) (by omega)]; rfl
    simp -implicitDefEqProofs only [go_sem, Nat.reduceAdd, Nat.reduceSub, Nat.reduceMul, Nat.reduceLT, Nat.reduceLeDiff, Nat.reduceEqDiff, Nat.reduceBEq, Nat.reduceGT, Nat.reduceMod, Nat.reduceDiv, ↓reduceIte, reduceCtorEq, Int.reduceLE, Int.reduceLT, Int.reduceToNat, Int.reduceEq, Int.reduceNeg, Int.reduceAdd, Int.reduceSub, Int.reduceMul, h1, h5, h13, h14, h15, aIndexAddr, hr, hlt, hlt2, hlt3, hnn, hnn3, Nat.mul_one, aConv, a0, a1, hk0, h32, hmin, hro, a2, a4, hw1, a7, min_lit32, a3, a6, hw2]
    refine ⟨i + 1, ⟨(o.set i (c + lo)).set (i + 1) hi2, hi2, ?_⟩, by omega⟩
    refine ⟨rfl, by omega, by simpa using ho, small_set (small_set hs hsum) (by omega), hhi, ?_, ?_, hrow2.set, hE2.set (Nat.le_refl _) _⟩
    · rw [List.drop_eq_getElem_cons (by simp; omega)]
      simp only [List.getElem_set_self, List.cons.injEq, true_and]
      rw [List.drop_set_of_lt (by omega), List.drop_set_of_lt (by omega)]
      have := congrArg (List.drop 1) hoz
      rw [List.drop_drop, List.drop_replicate] at this
      rw [this]; congr 1
    · rw [List.take_set_of_le (by omega), valL_take_set (by omega), hts, Nat.add_mul, ← hvl, ← hmul, ← hdm, Nat.pow_succ]
      rw [Nat.mul_add, Nat.mul_add, Nat.mul_assoc]
      omega
  · have hil : i = l.length := by omega
    subst hil
    simp -implicitDefEqProofs only [go_sem, Nat.reduceAdd, Nat.reduceSub, Nat.reduceMul, Nat.reduceLT, Nat.reduceLeDiff, Nat.reduceEqDiff, Nat.reduceBEq, Nat.reduceGT, Nat.reduceMod, Nat.reduceDiv, ↓reduceIte, reduceCtorEq, Int.reduceLE, Int.reduceLT, Int.reduceToNat, Int.reduceEq, Int.reduceNeg, Int.reduceAdd, Int.reduceSub, Int.reduceMul, h5, res264]
    refine ⟨hE, o, hrow, ho, hs, ?_⟩
    rw [List.take_length, hval] at hvl
    rw [← hvl, ← List.take_append_drop l.length o, valL_app, hd]
    simp [valL, ho]
end Go.Proofs.YthhmkaikopdmjaaGreat
namespace Go.Proofs.YthhmkaikopdmjaaGreat
open Go Go.Fw
theorem unshift_sim {H : Heap} {v : Value} {l : List Nat} {k : Nat} (hv : Lim H v l) (hn : small l) (hl : l.length ≤ 10000001) (hk : k ≤ 31) :
    ∃ u H', Sim Tryz.prog 266 #[v, .int .i64 (k : Nat)] H u H' ∧ Ext H H' ∧ LN H' u (valL l / 2 ^ k) := by
  have e1 := hv.len (tt := tt) tt163
  refine sxA tok mixed Tryz.func266 ?_
  simp -implicitDefEqProofs only [go_sem, simprocAttr, -Int.reducePow, -Nat.reducePow, e1, make_u32 H .i64 .i64 _ _ (Nat.le_refl _) (show l.length ≤ 200000000 by omega)]
  refine ax_loopx (fun (i : Nat) s T => ∃ (o : List Nat), s 0 = v ∧ s 1 = .int .i64 (k : Nat) ∧ s 5 = .slice (some ⟨H.length, 0, none⟩) l.length l.length ∧ s 12 = .int .i64 (l.length : Nat) ∧ s 13 = .int .i64 (i : Nat) ∧
    i ≤ l.length ∧ o.length = l.length ∧ small o ∧ valL (o.take i) = valL l / 2 ^ k % 4294967296 ^ i ∧ Row T H.length o ∧ Ext H T) (fun i => l.length - i) 0 ?_ ?_
  · refine ⟨List.replicate l.length 0, ?_⟩
    simp -implicitDefEqProofs only [go_sem, simprocAttr, -Int.reducePow, -Nat.reducePow]
    exact ⟨by simp, small_zeros _, by simp [valL, Nat.mod_one], Row.new _ _, .app _ _⟩
  rintro i s T ⟨o, h0, h1, h5, h12, h13, hi, ho, hs, hval, hrow, hE⟩
  simp -implicitDefEqProofs only [go_sem, simprocAttr, -Int.reducePow, -Nat.reducePow, h12, h13]
  refine ax_cond2 ?_
  simp only [ev_tmp, ev_const, ev_func, upd_at, put_some, put_none, bndB_bool, Nat.reduceEqDiff, if_true, if_false, ↓reduceIte, reduceCtorEq]
  refine ⟨fun hc0 => have hlt := of_decide_eq_true hc0; ?_, fun hc0 => have hlt := of_decide_eq_false hc0; ?_⟩
  · obtain ⟨b, i0, cp, rfl, hL⟩ := hv.at (by rintro rfl; simp only [List.length_nil] at hlt; omega)
    have hr := (hL.ext hE).rd (k := i) (by omega)
    have hx := small_get hn (k := i) (by omega)
    have hdx := valL_digit l hn i
    have hdy := valL_digit l hn (i + 1)
    have hy := small_getD hn (i + 1)
    have hus := unshift_digit (valL l) i k (by omega)
    have hmn := mod_next (valL l / 2 ^ k) i
    have hxg : l.getD i 0 = l[i]'(by omega) := by simp [show i < l.length by omega]
    rw [hxg] at hdx
    generalize hxx : l[i]'(by omega) = x at hr hx hdx
    have hnn : (0 : Int) ≤ (i : Int) := by omega
    have a0 := wu64n (n := x) (by omega)
    have a7 : IntKind.i64.wrap ((i : Int) + 1) = ((i + 1 : Nat) : Int) := by rw [w64 (by omega) (by omega)]; rfl
    simp -implicitDefEqProofs only [go_sem, simprocAttr, -Int.reducePow, -Nat.reducePow, h0, h12, h13, aIndexAddr, hr, hlt, hnn, Nat.mul_one, aConv, a0, e1, a7]
    have hz : valL l / 4294967296 ^ i % (4294967296 * 4294967296) = x + l.getD (i + 1) 0 * 4294967296 := by
      rw [Nat.mod_mul, ← hdx, Nat.div_div_eq_div_mul, ← Nat.pow_succ, ← hdy, Nat.mul_comm 4294967296]
    rw [hz] at hus
    generalize l.getD (i + 1) 0 = y at *
    generalize hyz : x + y * 4294967296 = z at hus
    refine ax_mid (fun s T' => T' = T ∧ s 0 = .slice (some ⟨b, i0, none⟩) l.length cp ∧ s 1 = .int .i64 (k : Nat) ∧ s 5 = .slice (some ⟨H.length, 0, none⟩) l.length l.length ∧ s 12 = .int .i64 (l.length : Nat) ∧ s 13 = .int .i64 (i : Nat) ∧ s 6 = .int .i64 (i : Nat) ∧
      s 7 = .int .u64 (z : Nat)) ?_ ?_
    · refine ax_cond2 ?_
      simp only [ev_tmp, ev_const, ev_func, upd_at, put_some, put_none, bndB_bool, Nat.reduceEqDiff, if_true, if_false, ↓reduceIte, reduceCtorEq]
      refine ⟨fun hc0 => have hi1 := of_decide_eq_true hc0; ?_, fun hc0 => have hi1 := of_decide_eq_false hc0; ?_⟩
      · have hr2 := (hL.ext hE).rd (k := i + 1) (by omega)
        have hyg : l.getD (i + 1) 0 = l[i + 1]'(by omega) := by simp [show i + 1 < l.length by omega]
        have hyy : l[i + 1]'(by omega) = y := by rw [← hyg, valL_digit l hn]; exact hdy.symm
        rw [hyy] at hr2
        have a2 := wu64n (n := y) (by omega)
        have a3 : IntKind.u64.wrap ((y : Int) * 2 ^ 32) = ((y * 2 ^ 32 : Nat) : Int) := by
          rw [show ((y : Int) * 2 ^ 32) = ((y * 2 ^ 32 : Nat) : Int) by simp, wu64n (by omega)]
        have a4 := or_u64 (a := x) (b := y * 2 ^ 32) (by omega) (by omega)
        have a5 : x ||| y * 2 ^ 32 = z := by rw [or_add (by omega), ← hyz]
        rw [a5] at a4
        have hnn2 : (0 : Int) ≤ ((i + 1 : Nat) : Int) := by omega
        have h32 : ¬ ((32 : Int) < 0) := by omega
        simp -implicitDefEqProofs only [go_sem, simprocAttr, -Int.reducePow, -Nat.reducePow, h0, h1, h5, h12, h13, aIndexAddr, hr2, hi1, hnn2, Nat.mul_one, aConv, a7, a2, a3, a4, h32, min_lit32]
      · have : y = 0 := by
          rw [hdy, ← valL_digit l hn]; simp [show l.length ≤ i + 1 by omega]
        have hzx : z = x := by omega
        subst hzx
        simp -implicitDefEqProofs only [go_sem, simprocAttr, -Int.reducePow, -Nat.reducePow, h0, h1, h5, h12, h13]
    clear h0 h1 h5 h12 h13
    rintro s T' ⟨rfl, h0, h1, h5, h12, h13, h6, h7⟩
    have hzl : z < 18446744073709551616 := by omega
    have hk0 : ¬ ((k : Int) < 0) := by omega
    have hmin : min k 64 = k := by omega
    have b1 := fdiv_pow z k
    have b2 := low_u32 (z / 2 ^ k)
    have hq : z / 2 ^ k % 4294967296 < 4294967296 := Nat.mod_lt _ (by decide)
    rw [hus] at b2 hq
    rw [← hus] at hmn
    rw [hus] at hmn
    generalize valL l / 2 ^ k / 4294967296 ^ i % 4294967296 = d at *
    have hw := hrow.wr (j := i) (x := d) (by omega)
    simp -implicitDefEqProofs only [go_sem, simprocAttr, -Int.reducePow, -Nat.reducePow, h0, h1, h5, h6, h7, h12, h13, aIndexAddr, hlt, hnn, Nat.mul_one, aConv, hk0, hmin, b1, b2, hw, a7]
    refine ⟨i + 1, ⟨o.set i d, ?_⟩, by omega⟩
    refine ⟨rfl, by omega, by simpa using ho, small_set hs hq, ?_, hrow.set, hE.set (Nat.le_refl _) _⟩
    rw [valL_take_set (by omega), hval, hmn]
  · have hil : i = l.length := by omega
    subst hil
    have hlim := (hrow.at (c := l.length) l.length (.inr (Nat.le_refl _)) (by omega) (by omega)).lim
    rw [← ho, List.take_length] at hlim
    obtain ⟨u, htr, hlu⟩ := trim_sim hlim
    simp -implicitDefEqProofs only [go_sem, simprocAttr, -Int.reducePow, -Nat.reducePow, h5]
    rw [ho] at htr
    refine wl_callF #[_] (by simp -implicitDefEqProofs only [go_sem, simprocAttr, -Int.reducePow, -Nat.reducePow]) htr (fun h => by cases h) ?_
    simp -implicitDefEqProofs only [go_sem, simprocAttr, -Int.reducePow, -Nat.reducePow, res266]
    rw [← ho, List.take_length, ho] at hval
    have hcn := Canl.of_trim hs
    have hlt2 : valL l / 2 ^ k < 4294967296 ^ l.length := Nat.lt_of_le_of_lt (Nat.div_le_self _ _) (valL_lt hn)
    rw [hval, Nat.mod_eq_of_lt hlt2] at hcn
    exact ⟨hE, _, hlu, hcn⟩
end Go.Proofs.YthhmkaikopdmjaaGreat
namespace Go.Proofs.YthhmkaikopdmjaaGreat
open Go Go.Fw
theorem digit_sim {T : Heap} {b bv iv cu cv : Nat} {u m : List Nat} {X V i : Nat} (hrow : Row T b u) (hM : LimAt T bv iv cv m) (hb : bv ≠ b) (hu : small u) (hm : small m) (hX : valL u = X) (hV : valL m = V) (hk : 2 ≤ m.length) (hi : i + m.length < u.length) (htop : 2147483648 ≤ m.getD (m.length - 1) 0)
    (hlt : X < V * 4294967296 ^ (i + 1)) (hul : u.length ≤ 10000001) :
    ∃ H', Sim Tryz.prog 265 #[.slice (some ⟨b, 0, none⟩) u.length cu, .slice (some ⟨bv, iv, none⟩) m.length cv, .int .i64 (i : Nat)] T (.int .u32 (X / (V * 4294967296 ^ i) : Nat)) H' ∧
      ∃ u', H' = T.set b ⟨u32s u', 1, true⟩ ∧ u'.length = u.length ∧ small u' ∧ valL u' = X % (V * 4294967296 ^ i) := by
  suffices hx : ∃ w H', Sim Tryz.prog 265 #[.slice (some ⟨b, 0, none⟩) u.length cu, .slice (some ⟨bv, iv, none⟩) m.length cv, .int .i64 (i : Nat)] T w H' ∧ w = .int .u32 (X / (V * 4294967296 ^ i) : Nat) ∧
      ∃ u', H' = T.set b ⟨u32s u', 1, true⟩ ∧ u'.length = u.length ∧ small u' ∧ valL u' = X % (V * 4294967296 ^ i) by
    obtain ⟨w, H', h1, rfl, h2⟩ := hx
    exact ⟨H', h1, h2⟩
  have kn := KN.of hu hm hX hV hk hi htop hlt
  have hql := kn.qlt
  obtain ⟨q, hq⟩ : ∃ q, q = X / (V * 4294967296 ^ i) := ⟨_, rfl⟩
  rw [← hq] at hql ⊢
  have hVp := kn.vpos
  have hXl : X < 4294967296 ^ (i + m.length + 1) := by
    refine Nat.lt_of_lt_of_le hlt ?_
    rw [show i + m.length + 1 = m.length + (i + 1) by omega, Nat.pow_add 4294967296 m.length (i + 1)]
    exact Nat.mul_le_mul_right _ (by rw [← hV]; exact Nat.le_of_lt (valL_lt hm))
  have hhigh : u.drop (i + m.length + 1) = List.replicate (u.length - (i + m.length + 1)) 0 := valL_high hu (by rw [hX]; exact hXl)
  have rv : ∀ B : Blk, ∀ j, (hj : j < m.length) → rd (T.set b B) bv (iv + j) 1 = some [.int .u32 (m[j] : Nat)] := fun B j hj => (hM.set hb B).rd hj
  have ru1 := hrow.rd (j := i + m.length) hi
  have ru2 := hrow.rd (j := i + m.length - 1) (by omega)
  have ru3 := hrow.rd (j := i + m.length - 2) (by omega)
  have rv1 := hM.rd (k := m.length - 1) (by omega)
  have rv2 := hM.rd (k := m.length - 2) (by omega)
  have g1 : u.getD (i + m.length) 0 = u[i + m.length]'hi := by simp [hi]
  have g2 : u.getD (i + m.length - 1) 0 = u[i + m.length - 1]'(by omega) := by simp [show i + m.length - 1 < u.length by omega]
  have g3 : u.getD (i + m.length - 2) 0 = u[i + m.length - 2]'(by omega) := by simp [show i + m.length - 2 < u.length by omega]
  have g4 : m.getD (m.length - 1) 0 = m[m.length - 1]'(by omega) := by simp [show m.length - 1 < m.length by omega]
  have g5 : m.getD (m.length - 2) 0 = m[m.length - 2]'(by omega) := by simp [show m.length - 2 < m.length by omega]
  rw [g1, g2, g3, g4, g5] at kn
  generalize u[i + m.length]'hi = uh at *
  generalize u[i + m.length - 1]'(by omega) = ul at *
  generalize u[i + m.length - 2]'(by omega) = u0 at *
  generalize m[m.length - 1]'(by omega) = v1 at *
  generalize m[m.length - 2]'(by omega) = v2 at *
  clear g1 g2 g3 g4 g5
  obtain ⟨hv1h, hv1l, hv2l, huhl, hull, hu0l, hk2, -, -, -, -, -⟩ := id kn
  have hfirst := kn.first
  rw [← hq] at hfirst
  have kund : ∀ {g r : Nat}, g * v1 + r = uh * 4294967296 + ul → g < 4294967296 → (4294967296 ≤ r ∨ g * v2 ≤ r * 4294967296 + u0) → (g - 1) * (V * 4294967296 ^ i) ≤ X := fun a b c => kn.under a b c
  have kover : ∀ {g r : Nat}, g * v1 + r = uh * 4294967296 + ul → r * 4294967296 + u0 < g * v2 → q < g := fun a b => by rw [hq]; exact kn.over a b
  clear kn
  have w1 : IntKind.i64.wrap ((i : Int) + (m.length : Int)) = ((i + m.length : Nat) : Int) := by rw [addc, w64n (by omega)]
  have w2 : IntKind.i64.wrap (((i + m.length : Nat) : Int) - 1) = ((i + m.length - 1 : Nat) : Int) := by rw [w64 (by omega) (by omega)]; omega
  have w3 : IntKind.i64.wrap (((i + m.length : Nat) : Int) - 2) = ((i + m.length - 2 : Nat) : Int) := by rw [w64 (by omega) (by omega)]; omega
  have w4 : IntKind.i64.wrap ((m.length : Int) - 1) = ((m.length - 1 : Nat) : Int) := by rw [w64 (by omega) (by omega)]; omega
  have w5 : IntKind.i64.wrap ((m.length : Int) - 2) = ((m.length - 2 : Nat) : Int) := by rw [w64 (by omega) (by omega)]; omega
  have i1 : (0 : Int) ≤ ((i + m.length : Nat) : Int) ∧ ((i + m.length : Nat) : Int) < (u.length : Int) := by omega
  have i2 : (0 : Int) ≤ ((i + m.length - 1 : Nat) : Int) ∧ ((i + m.length - 1 : Nat) : Int) < (u.length : Int) := by omega
  have i3 : (0 : Int) ≤ ((i + m.length - 2 : Nat) : Int) ∧ ((i + m.length - 2 : Nat) : Int) < (u.length : Int) := by omega
  have i4 : (0 : Int) ≤ ((m.length - 1 : Nat) : Int) ∧ ((m.length - 1 : Nat) : Int) < (m.length : Int) := by omega
  have i5 : (0 : Int) ≤ ((m.length - 2 : Nat) : Int) ∧ ((m.length - 2 : Nat) : Int) < (m.length : Int) := by omega
  have h32 : ¬ ((32 : Int) < 0) := by omega
  have c1 := wu64n (n := uh) (by omega)
  have c2 := wu64n (n := ul) (by omega)
  have c3 := wu64n (n := u0) (by omega)
  have c4 := wu64n (n := v1) (by omega)
  have c5 := wu64n (n := v2) (by omega)
  have s1 : IntKind.u64.wrap ((uh : Int) * 2 ^ 32) = ((uh * 2 ^ 32 : Nat) : Int) := by
    rw [show ((uh : Int) * 2 ^ 32) = ((uh * 2 ^ 32 : Nat) : Int) by simp, wu64n (by omega)]
  have s2 := or_u64 (a := uh * 2 ^ 32) (b := ul) (by omega) (by omega)
  have s3 : uh * 2 ^ 32 ||| ul = uh * 4294967296 + ul := by rw [Nat.or_comm, or_add (by omega)]; omega
  rw [s3] at s2
  have htl : uh * 4294967296 + ul < 18446744073709551616 := by omega
  have tdm := Nat.div_add_mod (uh * 4294967296 + ul) v1
  have tml := Nat.mod_lt (uh * 4294967296 + ul) (show 0 < v1 by omega)
  have td := tdiv_nat (uh * 4294967296 + ul) v1
  have tm := tmod_nat (uh * 4294967296 + ul) v1
  have tdl := Nat.div_le_self (uh * 4294967296 + ul) v1
  have v1n : ¬ ((v1 : Int) = 0) := by omega
  have e1 : aLen tt [163] (.slice (some ⟨bv, iv, none⟩) m.length cv) = some (.int .i64 (m.length : Nat)) := rfl
  refine sxA tok mixed Tryz.func265 ?_
  simp -implicitDefEqProofs only [go_sem, simprocAttr, -Int.reducePow, -Nat.reducePow, e1]
  refine ax_quiet (by kernel_rfl) ?_
  simp -implicitDefEqProofs only [go_sem, simprocAttr, -Int.reducePow, -Nat.reducePow, aIndexAddr, w1, w2, i1, i2, Nat.mul_one, ru1, ru2, aConv, c1, c2, s1, s2, h32, min_lit32]
  generalize uh * 4294967296 + ul = top at *
  generalize top / v1 = g0 at *
  generalize top % v1 = r0 at *
  have c6 := wu64n (n := g0) (by omega)
  have c7 := wu64n (n := r0) (by omega)
  refine ax_quiet (by kernel_rfl) ?_
  simp -implicitDefEqProofs only [go_sem, simprocAttr, -Int.reducePow, -Nat.reducePow, aIndexAddr, w4, i4, Nat.mul_one, rv1, aConv, c4, c6, c7, v1n, td, tm]
  have hT := hrow.self
  refine ax_midl (fun s T' => ∃ g : Nat, T' = T ∧ s 0 = .slice (some ⟨b, 0, none⟩) u.length cu ∧ s 1 = .slice (some ⟨bv, iv, none⟩) m.length cv ∧ s 2 = .int .i64 (i : Nat) ∧ s 7 = .int .i64 (m.length : Nat) ∧ s 9 = .int .u64 (g : Nat) ∧
      g < 4294967296 ∧ q ≤ g ∧ (g - 1) * (V * 4294967296 ^ i) ≤ X) ?_ ?_
  · refine ax_loopx (fun (g : Nat) s T' => ∃ r : Nat, T' = T ∧ s 0 = .slice (some ⟨b, 0, none⟩) u.length cu ∧ s 1 = .slice (some ⟨bv, iv, none⟩) m.length cv ∧ s 2 = .int .i64 (i : Nat) ∧ s 7 = .int .i64 (m.length : Nat) ∧ s 9 = .int .u64 (g : Nat) ∧ s 10 = .int .u64 (r : Nat) ∧
        g * v1 + r = top ∧ q ≤ g ∧ g < 18446744073709551616) (fun g => g) g0 ?_ ?_
    · refine ⟨r0, ?_⟩
      simp -implicitDefEqProofs only [go_sem, simprocAttr, -Int.reducePow, -Nat.reducePow]
      exact ⟨by rw [Nat.mul_comm]; exact tdm, hfirst, by omega⟩
    rintro g s T' ⟨r, rfl, h0, h1, h2, h7, h9, h10, hgr, hqg, hgl⟩
    have f1 := fdiv_pow g 32
    have f2 := fdiv_pow r 32
    have hrt : r ≤ top := by rw [← hgr]; omega
    have next : q < g → ∃ g' r' : Nat, g = g' + 1 ∧ IntKind.u64.wrap ((g : Int) - 1) = (g' : Int) ∧ IntKind.u64.wrap ((r : Int) + (v1 : Int)) = (r' : Int) ∧ g' * v1 + r' = top ∧ q ≤ g' ∧ (r' = r + v1) ∧ r' ≤ top := by
      intro h
      obtain ⟨g', rfl⟩ : ∃ g', g = g' + 1 := ⟨g - 1, by omega⟩
      rw [Nat.add_mul, Nat.one_mul] at hgr
      have : r + v1 ≤ top := by rw [← hgr]; omega
      have hg1 : ((g' + 1 : Nat) : Int) - 1 = (g' : Int) := by omega
      refine ⟨g', r + v1, rfl, by rw [hg1, wu64n (by omega)], by rw [addc, wu64n (by omega)], by omega, by omega, rfl, this⟩
    simp -implicitDefEqProofs only [wa_seq]
    refine ax_quiet (by kernel_rfl) ?_
    by_cases hA : 4294967296 ≤ g
    · have d1 : (0 : Int) < ((g / 2 ^ 32 : Nat) : Int) := by omega
      simp -implicitDefEqProofs only [go_sem, simprocAttr, -Int.reducePow, -Nat.reducePow, h0, h1, h2, h7, h9, h10, f1, h32, min_lit32, d1]
      refine ax_cond2 ?_
      simp only [ev_tmp, ev_const, ev_func, upd_at, put_some, put_none, bndB_bool, Nat.reduceEqDiff, if_true, if_false, ↓reduceIte, reduceCtorEq]
      refine ⟨fun _ => ?_, fun hc => hc.elim⟩
      obtain ⟨g', r', rfl, n1, n2, n3, n4, n5, n6⟩ := next (by omega)
      have f3 := fdiv_pow r' 32
      have f4 := fdiv_pow g' 32
      simp -implicitDefEqProofs only [go_sem, simprocAttr, -Int.reducePow, -Nat.reducePow, h0, h1, h2, h7, h9, h10, n1, aIndexAddr, w4, i4, Nat.mul_one, rv1, aConv, c4, n2, f3, h32, min_lit32]
      by_cases hB : 4294967296 ≤ r'
      · have d2 : (0 : Int) < ((r' / 2 ^ 32 : Nat) : Int) := by omega
        by_cases hC : 4294967296 ≤ g'
        · have d3 : ¬ ((g' / 2 ^ 32 : Nat) : Int) = 0 := by omega
          simp -implicitDefEqProofs only [go_sem, simprocAttr, -Int.reducePow, -Nat.reducePow, d2, f4, h32, min_lit32, d3]
          refine ax_cond2 ?_
          simp only [ev_tmp, ev_const, ev_func, upd_at, put_some, put_none, bndB_bool, Nat.reduceEqDiff, if_true, if_false, ↓reduceIte, reduceCtorEq]
          refine ⟨fun hc => hc.elim, fun _ => ?_⟩
          simp -implicitDefEqProofs only [go_sem, simprocAttr, -Int.reducePow, -Nat.reducePow, h0, h1, h2, h7]
          exact ⟨g', ⟨r', rfl, rfl, n3, n4, by omega⟩, by omega⟩
        · have d3 : ((g' / 2 ^ 32 : Nat) : Int) = 0 := by omega
          simp -implicitDefEqProofs only [go_sem, simprocAttr, -Int.reducePow, -Nat.reducePow, d2, f4, h32, min_lit32, d3]
          refine ax_cond2 ?_
          simp only [ev_tmp, ev_const, ev_func, upd_at, put_some, put_none, bndB_bool, Nat.reduceEqDiff, if_true, if_false, ↓reduceIte, reduceCtorEq]
          refine ⟨fun _ => ?_, fun hc => hc.elim⟩
          simp -implicitDefEqProofs only [go_sem, simprocAttr, -Int.reducePow, -Nat.reducePow, h0, h1, h2, h7]
          exact ⟨g', rfl, by omega, n4, kund n3 (by omega) (.inl hB)⟩
      · have d2 : ¬ (0 : Int) < ((r' / 2 ^ 32 : Nat) : Int) := by omega
        simp -implicitDefEqProofs only [go_sem, simprocAttr, -Int.reducePow, -Nat.reducePow, d2]
        refine ax_cond2 ?_
        simp only [ev_tmp, ev_const, ev_func, upd_at, put_some, put_none, bndB_bool, Nat.reduceEqDiff, if_true, if_false, ↓reduceIte, reduceCtorEq]
        refine ⟨fun hc => hc.elim, fun _ => ?_⟩
        simp -implicitDefEqProofs only [go_sem, simprocAttr, -Int.reducePow, -Nat.reducePow, h0, h1, h2, h7]
        exact ⟨g', ⟨r', rfl, rfl, n3, n4, by omega⟩, by omega⟩
    · have d1 : ¬ (0 : Int) < ((g / 2 ^ 32 : Nat) : Int) := by omega
      by_cases hB : 4294967296 ≤ r
      · have d2 : ¬ ((r / 2 ^ 32 : Nat) : Int) = 0 := by omega
        simp -implicitDefEqProofs only [go_sem, simprocAttr, -Int.reducePow, -Nat.reducePow, h0, h1, h2, h7, h9, h10, f1, f2, h32, min_lit32, d1, d2]
        refine ax_cond2 ?_
        simp only [ev_tmp, ev_const, ev_func, upd_at, put_some, put_none, bndB_bool, Nat.reduceEqDiff, if_true, if_false, ↓reduceIte, reduceCtorEq]
        refine ⟨fun hc => hc.elim, fun _ => ?_⟩
        simp -implicitDefEqProofs only [go_sem, simprocAttr, -Int.reducePow, -Nat.reducePow, h0, h1, h2, h7, h9]
        exact ⟨g, rfl, by omega, hqg, kund hgr (by omega) (.inl hB)⟩
      · have d2 : ((r / 2 ^ 32 : Nat) : Int) = 0 := by omega
        have hgv : g * v2 ≤ 4294967295 * 4294967295 := Nat.mul_le_mul (by omega) (by omega)
        have m1 : IntKind.u64.wrap ((g : Int) * (v2 : Int)) = ((g * v2 : Nat) : Int) := by rw [mulc, wu64n (by omega)]
        have m2 : IntKind.u64.wrap ((r : Int) * 2 ^ 32) = ((r * 2 ^ 32 : Nat) : Int) := by
          rw [show ((r : Int) * 2 ^ 32) = ((r * 2 ^ 32 : Nat) : Int) by simp, wu64n (by omega)]
        have m3 := or_u64 (a := r * 2 ^ 32) (b := u0) (by omega) (by omega)
        have m4 : r * 2 ^ 32 ||| u0 = r * 4294967296 + u0 := by rw [Nat.or_comm, or_add (by omega)]; omega
        rw [m4] at m3
        by_cases hC : r * 4294967296 + u0 < g * v2
        · have d3 : ((r * 4294967296 + u0 : Nat) : Int) < ((g * v2 : Nat) : Int) := by omega
          simp -implicitDefEqProofs only [go_sem, simprocAttr, -Int.reducePow, -Nat.reducePow, h0, h1, h2, h7, h9, h10, f1, f2, h32, min_lit32, d1, d2, aIndexAddr, w1, w3, w5, i3, i5, Nat.mul_one, rv2, ru3, aConv, c3, c5, m1, m2, m3, d3]
          refine ax_cond2 ?_
          simp only [ev_tmp, ev_const, ev_func, upd_at, put_some, put_none, bndB_bool, Nat.reduceEqDiff, if_true, if_false, ↓reduceIte, reduceCtorEq]
          refine ⟨fun _ => ?_, fun hc => hc.elim⟩
          have hov := kover hgr hC
          obtain ⟨g', r', rfl, n1, n2, n3, n4, n5, n6⟩ := next hov
          have f3 := fdiv_pow r' 32
          have f4 := fdiv_pow g' 32
          have d5 : ((g' / 2 ^ 32 : Nat) : Int) = 0 := by omega
          simp -implicitDefEqProofs only [go_sem, simprocAttr, -Int.reducePow, -Nat.reducePow, h0, h1, h2, h7, h9, h10, n1, aIndexAddr, w4, i4, Nat.mul_one, rv1, aConv, c4, n2, f3, h32, min_lit32]
          by_cases hD : 4294967296 ≤ r'
          · have d4 : (0 : Int) < ((r' / 2 ^ 32 : Nat) : Int) := by omega
            simp -implicitDefEqProofs only [go_sem, simprocAttr, -Int.reducePow, -Nat.reducePow, d4, f4, h32, min_lit32, d5]
            refine ax_cond2 ?_
            simp only [ev_tmp, ev_const, ev_func, upd_at, put_some, put_none, bndB_bool, Nat.reduceEqDiff, if_true, if_false, ↓reduceIte, reduceCtorEq]
            refine ⟨fun _ => ?_, fun hc => hc.elim⟩
            simp -implicitDefEqProofs only [go_sem, simprocAttr, -Int.reducePow, -Nat.reducePow, h0, h1, h2, h7]
            exact ⟨g', rfl, by omega, n4, kund n3 (by omega) (.inl hD)⟩
          · have d4 : ¬ (0 : Int) < ((r' / 2 ^ 32 : Nat) : Int) := by omega
            simp -implicitDefEqProofs only [go_sem, simprocAttr, -Int.reducePow, -Nat.reducePow, d4]
            refine ax_cond2 ?_
            simp only [ev_tmp, ev_const, ev_func, upd_at, put_some, put_none, bndB_bool, Nat.reduceEqDiff, if_true, if_false, ↓reduceIte, reduceCtorEq]
            refine ⟨fun hc => hc.elim, fun _ => ?_⟩
            simp -implicitDefEqProofs only [go_sem, simprocAttr, -Int.reducePow, -Nat.reducePow, h0, h1, h2, h7]
            exact ⟨g', ⟨r', rfl, rfl, n3, n4, by omega⟩, by omega⟩
        · have d3 : ¬ ((r * 4294967296 + u0 : Nat) : Int) < ((g * v2 : Nat) : Int) := by omega
          simp -implicitDefEqProofs only [go_sem, simprocAttr, -Int.reducePow, -Nat.reducePow, h0, h1, h2, h7, h9, h10, f1, f2, h32, min_lit32, d1, d2, aIndexAddr, w1, w3, w5, i3, i5, Nat.mul_one, rv2, ru3, aConv, c3, c5, m1, m2, m3, d3]
          refine ax_cond2 ?_
          simp only [ev_tmp, ev_const, ev_func, upd_at, put_some, put_none, bndB_bool, Nat.reduceEqDiff, if_true, if_false, ↓reduceIte, reduceCtorEq]
          refine ⟨fun hc => hc.elim, fun _ => ?_⟩
          simp -implicitDefEqProofs only [go_sem, simprocAttr, -Int.reducePow, -Nat.reducePow, h0, h1, h2, h7, h9]
          exact ⟨g, rfl, by omega, hqg, kund hgr (by omega) (.inr (by omega))⟩
  rintro s T' ⟨g, hTT, h0, h1, h2, h7, h9, hgl, hqg, hund⟩
  subst T'
  clear kund kover hfirst tdm tml td tm tdl v1n s1 s2 c1 c2 c3 c4 c5 c6 c7 w2 w3 w4 w5 i2 i3 i4 i5 ru1 ru2 ru3 rv1 rv2
  simp -implicitDefEqProofs only [go_sem, simprocAttr, -Int.reducePow, -Nat.reducePow, h1, e1]
  refine ax_loopx (fun (j : Nat) s T' => ∃ (o : List Nat) (c bw : Nat), s 0 = .slice (some ⟨b, 0, none⟩) u.length cu ∧ s 1 = .slice (some ⟨bv, iv, none⟩) m.length cv ∧ s 2 = .int .i64 (i : Nat) ∧ s 7 = .int .i64 (m.length : Nat) ∧ s 9 = .int .u64 (g : Nat) ∧
      s 11 = .int .u64 (c : Nat) ∧ s 12 = .int .u32 (bw : Nat) ∧ s 101 = .slice (some ⟨bv, iv, none⟩) m.length cv ∧ s 102 = .int .i64 (m.length : Nat) ∧ s 103 = .int .i64 (j : Nat) ∧ j ≤ m.length ∧ c < 4294967296 ∧ bw ≤ 1 ∧ o.length = u.length ∧ small o ∧
      o.drop (i + m.length + 1) = List.replicate (u.length - (i + m.length + 1)) 0 ∧ valL o + 4294967296 ^ i * (g * valL (m.take j)) = X + 4294967296 ^ (i + j) * (c + bw) ∧ T' = T.set b ⟨u32s o, 1, true⟩) (fun j => m.length - j) 0 ?_ ?_
  · refine ⟨u, 0, 0, ?_⟩
    simp -implicitDefEqProofs only [go_sem, simprocAttr, -Int.reducePow, -Nat.reducePow, h0, h1, h2, h7, h9, hT]
    exact ⟨hu, hhigh, by simp [valL, hX]⟩
  clear h0 h1 h2 h7 h9
  rintro j s T' ⟨o, c, bw, h0, h1, h2, h7, h9, h11, h12, h101, h102, h103, hj, hc, hbw, ho, hs, hz, hval, hTT⟩
  subst T'
  simp -implicitDefEqProofs only [go_sem, simprocAttr, -Int.reducePow, -Nat.reducePow, h101, h102, h103]
  refine ax_cond2 ?_
  simp only [ev_tmp, ev_const, ev_func, upd_at, put_some, put_none, bndB_bool, Nat.reduceEqDiff, if_true, if_false, ↓reduceIte, reduceCtorEq]
  refine ⟨fun hc0 => have hjm := of_decide_eq_true hc0; ?_, fun hc0 => have hjm := of_decide_eq_false hc0; ?_⟩
  · have hr := rv ⟨u32s o, 1, true⟩ j (by omega)
    have hx := small_get hm (k := j) (by omega)
    have hts := valL_take_succ (l := m) (k := j) (by omega)
    generalize hxx : m[j]'(by omega) = x at hr hx hts
    have hnn : (0 : Int) ≤ (j : Int) := by omega
    have hro := hrow.rdS (o := o) (j := i + j) (by omega)
    have hd := small_get hs (k := i + j) (by omega)
    have hset := fun z => valL_set (l := o) (k := i + j) (x := z) (by omega)
    generalize hdd : o[i + j]'(by omega) = d at hro hd hset
    have hgx : g * x ≤ 4294967295 * 4294967295 := Nat.mul_le_mul (by omega) (by omega)
    have a1 := wu64n (n := x) (by omega)
    have a2 : IntKind.u64.wrap ((g : Int) * (x : Int)) = ((g * x : Nat) : Int) := by rw [mulc, wu64n (by omega)]
    have a3 : IntKind.u64.wrap ((c : Int) + ((g * x : Nat) : Int)) = ((c + g * x : Nat) : Int) := by rw [addc, wu64n (by omega)]
    have a4 := low_u32 (c + g * x)
    have a5 := fdiv_pow (c + g * x) 32
    have a6 : IntKind.i64.wrap ((i : Int) + (j : Int)) = ((i + j : Nat) : Int) := by rw [addc, w64n (by omega)]
    have a7 : IntKind.i64.wrap ((j : Int) + 1) = ((j + 1 : Nat) : Int) := by rw [w64 (by omega) (by omega)]; rfl
    have hlt2 : ((i + j : Nat) : Int) < (u.length : Int) := by omega
    have hnn2 : (0 : Int) ≤ ((i + j : Nat) : Int) := by omega
    have hlo : (c + g * x) % 4294967296 < 4294967296 := Nat.mod_lt _ (by decide)
    have hsub := sub_eq hd hlo hbw
    have hdl := subD_lt d ((c + g * x) % 4294967296) bw
    have hbl := subB_le d ((c + g * x) % 4294967296) bw
    simp -implicitDefEqProofs only [go_sem, simprocAttr, -Int.reducePow, -Nat.reducePow, h0, h2, h9, h11, h12, h101, h103, aIndexAddr, hr, hjm, hnn, Nat.mul_one, aConv, a1, a2, a3, a4, a6, hro, hlt2, hnn2]
    refine wl_callF #[.int .u32 (d : Nat), .int .u32 ((c + g * x) % 4294967296 : Nat), .int .u32 (bw : Nat)] (by simp -implicitDefEqProofs only [go_sem, simprocAttr, -Int.reducePow, -Nat.reducePow]) (sub32_sim hd hlo hbw) (fun h => by cases h) ?_
    have hstep := fun A' h => sub_step (A := valL o) (A' := A') (X := X) (P := 4294967296 ^ (i + j)) (c := c) (b := bw) (g := g) (x := x) (d := d) (d' := subD d ((c + g * x) % 4294967296) bw) (b' := subB d ((c + g * x) % 4294967296) bw) hval hsub h
    have hcx : c + g * x < 18446744073709551616 := by omega
    generalize subD d ((c + g * x) % 4294967296) bw = d' at hdl hstep ⊢
    generalize subB d ((c + g * x) % 4294967296) bw = b' at hbl hstep ⊢
    have hw := hrow.wrS (o := o) (j := i + j) (x := d') (by omega)
    simp -implicitDefEqProofs only [go_sem, simprocAttr, -Int.reducePow, -Nat.reducePow, h0, h1, h2, h7, h9, h11, h12, h101, h102, h103, aIndexAddr, Nat.mul_one, hlt2, hnn2, hw, h32, min_lit32, a3, a5, a7]
    refine ⟨j + 1, ⟨o.set (i + j) d', (c + g * x) / 2 ^ 32, b', ?_⟩, by omega⟩
    refine ⟨rfl, rfl, rfl, by omega, Nat.div_lt_of_lt_mul hcx, hbl, by simpa using ho, small_set hs hdl, ?_, ?_⟩
    · rw [List.drop_set_of_lt (by omega)]; exact hz
    · have := hstep _ (hset d')
      rw [hts, show i + (j + 1) = (i + j) + 1 by omega, Nat.pow_succ, ← this]
      rw [Nat.mul_add g, Nat.mul_add (4294967296 ^ i), Nat.pow_add]
      have : 4294967296 ^ i * (g * (4294967296 ^ j * x)) = 4294967296 ^ i * 4294967296 ^ j * (g * x) := by
        rw [Nat.mul_left_comm g, Nat.mul_assoc]
      rw [this]
      exact ⟨rfl, rfl⟩
  have hjk : j = m.length := by omega
  subst hjk
  rw [List.take_length, hV] at hval
  have hro := hrow.rdS (o := o) (j := i + m.length) (by omega)
  have hd := small_get hs (k := i + m.length) (by omega)
  have hset := fun z => valL_set (l := o) (k := i + m.length) (x := z) (by omega)
  generalize hdd : o[i + m.length]'(by omega) = d at hro hd hset
  have c32 := wu32n hc
  simp -implicitDefEqProofs only [go_sem, simprocAttr, -Int.reducePow, -Nat.reducePow, h0, h1, h2, h7, h9, h11, h12, aIndexAddr, Nat.mul_one, aConv, w1, i1, hro, c32]
  refine wl_callF #[.int .u32 (d : Nat), .int .u32 (c : Nat), .int .u32 (bw : Nat)] (by simp -implicitDefEqProofs only [go_sem, simprocAttr, -Int.reducePow, -Nat.reducePow]) (sub32_sim hd hc hbw) (fun h => by cases h) ?_
  have hsub := sub_eq hd hc hbw
  have hdl := subD_lt d c bw
  have hbl := subB_le d c bw
  generalize subD d c bw = d' at hdl hsub ⊢
  generalize subB d c bw = b' at hbl hsub ⊢
  have hw := hrow.wrS (o := o) (j := i + m.length) (x := d') (by omega)
  have hset' := hset d'
  have hval2 : valL (o.set (i + m.length) d') + V * 4294967296 ^ i * g = X + 4294967296 ^ (i + m.length) * 4294967296 * b' := by
    have e := congrArg (4294967296 ^ (i + m.length) * ·) hsub
    simp only [Nat.mul_add] at e hval
    have e2 : V * 4294967296 ^ i * g = 4294967296 ^ i * (g * V) := by grind
    have e3 : 4294967296 ^ (i + m.length) * 4294967296 * b' = 4294967296 ^ (i + m.length) * (4294967296 * b') := by rw [Nat.mul_assoc]
    omega
  have hs2 : small (o.set (i + m.length) d') := small_set hs hdl
  have hz2 : (o.set (i + m.length) d').drop (i + m.length + 1) = List.replicate (u.length - (i + m.length + 1)) 0 := by
    rw [List.drop_set_of_lt (by omega)]; exact hz
  have ho2 : (o.set (i + m.length) d').length = u.length := by simpa using ho
  generalize o.set (i + m.length) d' = o2 at *
  clear hro hset hset' hval hz hs hdd ho
  simp -implicitDefEqProofs only [go_sem, simprocAttr, -Int.reducePow, -Nat.reducePow, h0, h1, h2, h7, h9, aIndexAddr, Nat.mul_one, i1, hw]
  refine ax_cond2 ?_
  simp only [ev_tmp, ev_const, ev_func, upd_at, put_some, put_none, bndB_bool, Nat.reduceEqDiff, if_true, if_false, ↓reduceIte, reduceCtorEq]
  refine ⟨fun hc0 => have hb0 := of_decide_eq_true hc0; ?_, fun hc0 => have hb0 := of_decide_eq_false hc0; ?_⟩
  · have hb0' : b' = 0 := by omega
    subst hb0'
    rw [Nat.mul_zero, Nat.add_zero] at hval2
    obtain ⟨e1, e2⟩ := quot_of hVp hval2 (by omega)
    have g32 := wu32n hgl
    simp -implicitDefEqProofs only [go_sem, simprocAttr, -Int.reducePow, -Nat.reducePow, h9, aConv, g32, res265]
    exact ⟨by rw [hq, e1], o2, rfl, ho2, hs2, e2⟩
  have hb1 : b' = 1 := by omega
  subst hb1
  rw [Nat.mul_one] at hval2
  have hlow2 := valL_low hs2 (by rw [hz2, ho2])
  have hxg : X < g * (V * 4294967296 ^ i) := by
    rw [Nat.pow_succ] at hlow2
    rw [Nat.mul_comm g]; omega
  have hqg2 : q < g := by rw [hq]; exact guess_lt hxg
  simp -implicitDefEqProofs only [go_sem, simprocAttr, -Int.reducePow, -Nat.reducePow, h0, h1, h2, h7, h9, e1]
  refine ax_loopx (fun (j : Nat) s T' => ∃ (o : List Nat) (c : Nat), s 0 = .slice (some ⟨b, 0, none⟩) u.length cu ∧ s 2 = .int .i64 (i : Nat) ∧ s 7 = .int .i64 (m.length : Nat) ∧ s 9 = .int .u64 (g : Nat) ∧
      s 15 = .int .u32 (c : Nat) ∧ s 157 = .slice (some ⟨bv, iv, none⟩) m.length cv ∧ s 158 = .int .i64 (m.length : Nat) ∧ s 159 = .int .i64 (j : Nat) ∧ j ≤ m.length ∧ c ≤ 1 ∧ o.length = u.length ∧ small o ∧
      o.drop (i + m.length + 1) = List.replicate (u.length - (i + m.length + 1)) 0 ∧ valL o + 4294967296 ^ (i + j) * c = valL o2 + 4294967296 ^ i * valL (m.take j) ∧ T' = T.set b ⟨u32s o, 1, true⟩) (fun j => m.length - j) 0 ?_ ?_
  · refine ⟨o2, 0, ?_⟩
    simp -implicitDefEqProofs only [go_sem, simprocAttr, -Int.reducePow, -Nat.reducePow, h0, h1, h2, h7, h9]
    exact ⟨ho2, hs2, hz2, by simp [valL]⟩
  clear h0 h1 h2 h7 h9 h11 h12 h101 h102 h103
  rintro j s T' ⟨o, c, h0, h2, h7, h9, h15, h157, h158, h159, hj, hc, ho, hs, hz, hval, hTT⟩
  subst T'
  simp -implicitDefEqProofs only [go_sem, simprocAttr, -Int.reducePow, -Nat.reducePow, h157, h158, h159]
  refine ax_cond2 ?_
  simp only [ev_tmp, ev_const, ev_func, upd_at, put_some, put_none, bndB_bool, Nat.reduceEqDiff, if_true, if_false, ↓reduceIte, reduceCtorEq]
  refine ⟨fun hc0 => have hjm := of_decide_eq_true hc0; ?_, fun hc0 => have hjm := of_decide_eq_false hc0; ?_⟩
  · have hr := rv ⟨u32s o, 1, true⟩ j (by omega)
    have hx := small_get hm (k := j) (by omega)
    have hts := valL_take_succ (l := m) (k := j) (by omega)
    generalize hxx : m[j]'(by omega) = x at hr hx hts
    have hnn : (0 : Int) ≤ (j : Int) := by omega
    have hro := hrow.rdS (o := o) (j := i + j) (by omega)
    have hd := small_get hs (k := i + j) (by omega)
    have hset := fun z => valL_set (l := o) (k := i + j) (x := z) (by omega)
    generalize hdd : o[i + j]'(by omega) = d at hro hd hset
    have a6 : IntKind.i64.wrap ((i : Int) + (j : Int)) = ((i + j : Nat) : Int) := by rw [addc, w64n (by omega)]
    have a7 : IntKind.i64.wrap ((j : Int) + 1) = ((j + 1 : Nat) : Int) := by rw [w64 (by omega) (by omega)]; rfl
    have hlt2 : ((i + j : Nat) : Int) < (u.length : Int) := by omega
    have hnn2 : (0 : Int) ≤ ((i + j : Nat) : Int) := by omega
    simp -implicitDefEqProofs only [go_sem, simprocAttr, -Int.reducePow, -Nat.reducePow, h0, h2, h15, h157, h159, aIndexAddr, hr, hjm, hnn, Nat.mul_one, a6, hro, hlt2, hnn2]
    refine wl_callF #[.int .u32 (d : Nat), .int .u32 (x : Nat), .int .u32 (c : Nat)] (by simp -implicitDefEqProofs only [go_sem, simprocAttr, -Int.reducePow, -Nat.reducePow]) (add32_sim hd hx hc) (fun h => by cases h) ?_
    have hstep := fun A' h => add_step (A := valL o) (A' := A') (X := valL o2) (P := 4294967296 ^ (i + j)) (s := c) (x := x) (d := d) hval h
    have hq2 : (d + x + c) / 4294967296 ≤ 1 := by omega
    have hm2 : (d + x + c) % 4294967296 < 4294967296 := Nat.mod_lt _ (by decide)
    generalize (d + x + c) / 4294967296 = c' at hq2 hstep ⊢
    generalize (d + x + c) % 4294967296 = d' at hm2 hstep ⊢
    have hw := hrow.wrS (o := o) (j := i + j) (x := d') (by omega)
    simp -implicitDefEqProofs only [go_sem, simprocAttr, -Int.reducePow, -Nat.reducePow, h0, h2, h7, h9, h15, h157, h158, h159, aIndexAddr, Nat.mul_one, hlt2, hnn2, hw, a7]
    refine ⟨j + 1, ⟨o.set (i + j) d', c', ?_⟩, by omega⟩
    refine ⟨rfl, rfl, by omega, hq2, by simpa using ho, small_set hs hm2, ?_, ?_, rfl⟩
    · rw [List.drop_set_of_lt (by omega)]; exact hz
    · rw [hts, show i + (j + 1) = (i + j) + 1 by omega, Nat.pow_succ, hstep _ (hset d'), Nat.mul_add, Nat.pow_add, Nat.mul_assoc (4294967296 ^ i)]
  have hjk : j = m.length := by omega
  subst hjk
  rw [List.take_length, hV] at hval
  have hro := hrow.rdS (o := o) (j := i + m.length) (by omega)
  have hd := small_get hs (k := i + m.length) (by omega)
  have hset := fun z => valL_set (l := o) (k := i + m.length) (x := z) (by omega)
  generalize hdd : o[i + m.length]'(by omega) = d at hro hd hset
  have a1 : IntKind.u32.wrap ((d : Int) + (c : Int)) = (((d + c) % 4294967296 : Nat) : Int) := by rw [addc, low_u32]
  have hm2 : (d + c) % 4294967296 < 4294967296 := Nat.mod_lt _ (by decide)
  have hw := hrow.wrS (o := o) (j := i + m.length) (x := (d + c) % 4294967296) (by omega)
  have g1 : IntKind.u64.wrap ((g : Int) - 1) = ((g - 1 : Nat) : Int) := by rw [wu64 (by omega) (by omega)]; omega
  have g2 := wu32n (n := g - 1) (by omega)
  simp -implicitDefEqProofs only [go_sem, simprocAttr, -Int.reducePow, -Nat.reducePow, h0, h2, h7, h9, h15, aIndexAddr, Nat.mul_one, aConv, w1, i1, hro, a1, hw, g1, g2, res265]
  have hs3 := small_set hs (k := i + m.length) hm2
  have hlow3 : valL (o.set (i + m.length) ((d + c) % 4294967296)) < 4294967296 ^ (i + m.length + 1) := valL_low hs3 (by rw [List.drop_set_of_lt (by omega), hz]; simp [ho])
  have hfin := back_step (A := valL o) (X := X) (P := 4294967296 ^ (i + m.length)) (s := c) (d := d) (V := V * 4294967296 ^ i) (g := g) (N := 4294967296 ^ (i + m.length + 1)) (by rw [Nat.pow_succ]) (by
    rw [hval, Nat.pow_succ]
    have : 4294967296 ^ i * V = V * 4294967296 ^ i := Nat.mul_comm _ _
    omega) (hset _) hlow3 hund (by omega) (by omega)
  obtain ⟨e2, e3⟩ := quot_of hVp hfin (by omega)
  exact ⟨by rw [hq, e2], _, rfl, by simpa using ho, hs3, e3⟩
end Go.Proofs.YthhmkaikopdmjaaGreat
namespace Go.Proofs.YthhmkaikopdmjaaGreat
open Go Go.Fw
theorem shift_div (n d k : Nat) : (n * 2 ^ k) / (d * 2 ^ k) = n / d ∧ (n * 2 ^ k) % (d * 2 ^ k) = n % d * 2 ^ k := by
  have h : 0 < 2 ^ k := Nat.pow_pos (by decide)
  exact ⟨Nat.mul_div_mul_right _ _ h, Nat.mul_mod_mul_right _ _ _⟩
theorem limb_one {m : List Nat} {d : Nat} (h : Canl m d) (hl : m.length = 1) : ∃ x, m = [x] ∧ x = d ∧ x < 4294967296 ∧ 0 < x := by
  match m, hl with
  | [x], _ =>
    have := h.val
    simp [valL] at this
    have hs := h.small x (by simp)
    refine ⟨x, rfl, this, hs, ?_⟩
    refine Nat.pos_of_ne_zero fun h0 => ?_
    have := h.trim
    rw [h0] at this
    exact absurd this (by decide)
theorem short_sim' {H : Heap} {v : Value} {l : List Nat} {n d : Nat} (hv : Lim H v l) (hn : Canl l n) (hl : l.length ≤ 10000000) (hd : d < 4294967296) (h0 : 0 < d) :
    ∃ u H', Sim Tryz.prog 262 #[v, .int .u32 (d : Nat)] H u H' ∧ Ext H H' ∧ ∃ a, u = .tuple #[a, .int .u32 (n % d : Nat)] ∧ LN H' a (n / d) := by
  obtain ⟨u, H', h1, h2, h3⟩ := short_sim hv hn hl hd h0
  exact ⟨_, H', h1, h2, u, rfl, h3⟩
theorem shift_sim' {H : Heap} {v : Value} {l : List Nat} {n k : Nat} (hv : Lim H v l) (hn : small l) (hval : valL l = n) (hl : l.length ≤ 10000000) (hk : k ≤ 31) :
    ∃ u H', Sim Tryz.prog 264 #[v, .int .i64 (k : Nat)] H u H' ∧ Ext H H' ∧ u = .slice (some ⟨H.length, 0, none⟩) (l.length + 1) (l.length + 1) ∧ ∃ o, Row H' H.length o ∧ o.length = l.length + 1 ∧ small o ∧ valL o = n * 2 ^ k := by
  obtain ⟨H', o, h1, h2, h3⟩ := shift_sim hv hn hval hl hk
  exact ⟨_, H', h1, h2, rfl, o, h3⟩
theorem cmpN_lt {n d : Nat} : cmpN n d < 0 ↔ n < d := by
  unfold cmpN
  by_cases h : n < d
  · simp [h]
  · rw [if_neg h]; by_cases h2 : d < n <;> simp [h, h2]
theorem divide_sim {H : Heap} {v w : Value} {l m : List Nat} {n d : Nat} (hv : Lim H v l) (hw : Lim H w m) (hn : Canl l n) (hd : Canl m d) (hl : l.length ≤ 1000000) (hm : m.length ≤ 1000000) (h0 : 0 < d) :
    ∃ u H', Sim Tryz.prog 216 #[v, w] H u H' ∧ Ext H H' ∧ ∃ a b, u = .tuple #[a, b] ∧ LN H' a (n / d) ∧ LN H' b (n % d) := by
  have e1 := hv.len (tt := tt) tt163
  have e2 := hw.len (tt := tt) tt163
  refine sxA tok mixed Tryz.func216 ?_
  simp -implicitDefEqProofs only [go_sem, simprocAttr]
  refine wl_callV #[v, w] (by simp -implicitDefEqProofs only [go_sem, simprocAttr]) (compare_sim hv hw hn hd hl hm) ?_
  have hcmp := @cmpN_lt n d
  by_cases hlt : n < d
  · have hlt' := hcmp.2 hlt
    generalize cmpN n d = z at *
    simp -implicitDefEqProofs only [go_sem, simprocAttr, hlt']
    refine ax_cond2 ?_
    simp only [ev_tmp, ev_const, ev_func, upd_at, put_some, put_none, bndB_bool, Nat.reduceEqDiff, if_true, if_false, ↓reduceIte, reduceCtorEq]
    refine ⟨fun _ => ?_, fun hc => hc.elim⟩
    simp -implicitDefEqProofs only [go_sem, simprocAttr, res216]
    refine ⟨Ext.refl _, _, _, rfl, ?_, ?_⟩
    · rw [Nat.div_eq_of_lt hlt]; exact LN.nil H
    · rw [Nat.mod_eq_of_lt hlt]; exact ⟨l, hv, hn⟩
  have hlt' : ¬ cmpN n d < 0 := fun h => hlt (hcmp.1 h)
  generalize cmpN n d = z at *
  simp -implicitDefEqProofs only [go_sem, simprocAttr, hlt']
  refine ax_cond2 ?_
  simp only [ev_tmp, ev_const, ev_func, upd_at, put_some, put_none, bndB_bool, Nat.reduceEqDiff, if_true, if_false, ↓reduceIte, reduceCtorEq]
  refine ⟨fun hc => hc.elim, fun _ => ?_⟩
  simp -implicitDefEqProofs only [go_sem, simprocAttr, e2]
  obtain ⟨bw, iw, cw, rfl, hM⟩ := hw.at (by rintro rfl; have := hd.val; simp [valL] at this; omega)
  have hm0 : 0 < m.length := by
    refine Nat.pos_of_ne_zero fun h => ?_
    have := hd.val
    rw [List.length_eq_zero_iff.1 h] at this
    simp [valL] at this; omega
  refine ax_cond2 ?_
  simp only [ev_tmp, ev_const, ev_func, upd_at, put_some, put_none, bndB_bool, Nat.reduceEqDiff, if_true, if_false, ↓reduceIte, reduceCtorEq]
  refine ⟨fun hc0 => have h1 := of_decide_eq_true hc0; ?_, fun hc0 => have h1 := of_decide_eq_false hc0; ?_⟩
  · have h1' : m.length = 1 := by omega
    obtain ⟨x, rfl, rfl, hx, hx0⟩ := limb_one hd h1'
    have hr := hM.rd (k := 0) (by simp)
    simp only [List.getElem_cons_zero, Nat.add_zero] at hr
    simp -implicitDefEqProofs only [go_sem, simprocAttr, aIndexAddr, hr, Nat.zero_mul, show (0 : Int) < ((1 : Nat) : Int) by decide]
    refine wl_callT #[v, .int .u32 (x : Nat)] (by simp -implicitDefEqProofs only [go_sem, simprocAttr]) (short_sim' hv hn (by omega) hx hx0) ?_
    rintro _ T hE ⟨a, rfl, hLN⟩
    have hT : Lim (T ++ [⟨[.int .u32 ((n % x : Nat) : Int)], 1, true⟩]) (.slice (some ⟨T.length, 0, none⟩) 1 1) [n % x] := (row_lim (H := T) (l := [n % x]) (L := []) (c := 1) (.inr (by simp)) (by simp)).lim
    obtain ⟨b, htr, hlb⟩ := trim_sim hT
    have hcb : Canl (trimZ [n % x]) (n % x) := by
      have := Canl.of_trim (l := [n % x]) (by intro y hy; simp at hy; subst hy; exact Nat.lt_trans (Nat.mod_lt _ hx0) hx)
      simpa [valL] using this
    simp -implicitDefEqProofs only [go_sem, simprocAttr, one_u32]
    refine wl_callV #[_] (by simp -implicitDefEqProofs only [go_sem, simprocAttr]) htr ?_
    simp -implicitDefEqProofs only [go_sem, simprocAttr, res216]
    exact ⟨hE.trans (.app _ _), a, b, rfl, hLN.app _, _, hlb, hcb⟩
  have hm2 : 2 ≤ m.length := by omega
  have hr := hM.rd (k := m.length - 1) (by omega)
  have htl := valL_digit m hd.small (m.length - 1)
  have htg : m.getD (m.length - 1) 0 = m[m.length - 1]'(by omega) := by simp [show m.length - 1 < m.length by omega]
  rw [htg, hd.val] at htl
  have hx := small_get hd.small (k := m.length - 1) (by omega)
  have hge := hd.ge (by rintro rfl; simp at hm0)
  have hltB := hd.lt
  generalize m[m.length - 1]'(by omega) = x at hr htl hx
  have hB : 4294967296 ^ m.length = 4294967296 ^ (m.length - 1) * 4294967296 := by rw [← Nat.pow_succ]; congr 1; omega
  have hBp : 0 < 4294967296 ^ (m.length - 1) := Nat.pow_pos (by decide)
  have hxd : x = d / 4294967296 ^ (m.length - 1) := by
    rw [htl, Nat.mod_eq_of_lt]
    rw [Nat.div_lt_iff_lt_mul hBp, Nat.mul_comm, ← hB]; exact hltB
  have hx0 : 0 < x := by rw [hxd]; exact Nat.div_pos hge hBp
  obtain ⟨hxl, hxu⟩ := div_bounds d (4294967296 ^ (m.length - 1)) hBp
  rw [← hxd] at hxl hxu
  have w1 : IntKind.i64.wrap ((m.length : Int) - 1) = ((m.length - 1 : Nat) : Int) := by rw [w64 (by omega) (by omega)]; omega
  have i1 : (0 : Int) ≤ ((m.length - 1 : Nat) : Int) ∧ ((m.length - 1 : Nat) : Int) < (m.length : Int) := by omega
  simp -implicitDefEqProofs only [go_sem, simprocAttr, e2, w1, aIndexAddr, i1, hr, Nat.mul_one]
  obtain ⟨k, hk, hk1, hk2, hlead⟩ := lead_sim (H := H) hx hx0
  refine wl_callV #[_] (by simp -implicitDefEqProofs only [go_sem, simprocAttr]) hlead ?_
  simp -implicitDefEqProofs only [go_sem, simprocAttr]
  refine wl_callT #[v, .int .i64 (k : Nat)] (by simp -implicitDefEqProofs only [go_sem, simprocAttr]) (shift_sim' hv hn.small hn.val (by omega) hk) ?_
  rintro _ T1 hE1 ⟨rfl, oU, hU, hUl, hUs, hUv⟩
  simp -implicitDefEqProofs only [go_sem, simprocAttr]
  refine wl_callT #[_, .int .i64 (k : Nat)] (by simp -implicitDefEqProofs only [go_sem, simprocAttr]) (shift_sim' (hw.ext hE1) hd.small hd.val (by omega) hk) ?_
  rintro _ T2 hE2 ⟨rfl, oV, hV, hVl, hVs, hVv⟩
  simp -implicitDefEqProofs only [go_sem, simprocAttr]
  have hcV := Canl.of_trim hVs
  rw [hVv] at hcV
  have hVlo : 2147483648 * 4294967296 ^ (m.length - 1) ≤ d * 2 ^ k := by
    have := Nat.mul_le_mul_right (2 ^ k) hxl
    have e : x * 4294967296 ^ (m.length - 1) * 2 ^ k = x * 2 ^ k * 4294967296 ^ (m.length - 1) := by grind
    rw [e] at this
    exact Nat.le_trans (Nat.mul_le_mul_right _ hk1) this
  have hVhi : d * 2 ^ k < 4294967296 ^ m.length := by
    have h3 : d * 2 ^ k < (x + 1) * 4294967296 ^ (m.length - 1) * 2 ^ k := Nat.mul_lt_mul_of_pos_right hxu (Nat.pow_pos (by decide))
    have e : (x + 1) * 4294967296 ^ (m.length - 1) * 2 ^ k = (x * 2 ^ k + 2 ^ k) * 4294967296 ^ (m.length - 1) := by grind
    rw [e] at h3
    refine Nat.lt_of_lt_of_le h3 ?_
    rw [hB, Nat.mul_comm _ 4294967296]
    refine Nat.mul_le_mul_right _ ?_
    obtain ⟨j, hj⟩ : ∃ j, k + j = 32 := ⟨32 - k, by omega⟩
    have hp : 4294967296 = 2 ^ j * 2 ^ k := by rw [← Nat.pow_add, Nat.add_comm j, hj]
    have : x + 1 ≤ 2 ^ j := by
      rw [hp] at hk2
      exact Nat.lt_of_mul_lt_mul_right hk2
    calc x * 2 ^ k + 2 ^ k = (x + 1) * 2 ^ k := by rw [Nat.add_mul, Nat.one_mul]
      _ ≤ 2 ^ j * 2 ^ k := Nat.mul_le_mul_right _ this
      _ = 4294967296 := hp.symm
  have hlen : (trimZ oV).length = m.length := by
    rcases Nat.lt_trichotomy (trimZ oV).length m.length with h | h | h
    · exfalso
      have h3 := hcV.lt
      have h4 : 4294967296 ^ (trimZ oV).length ≤ 4294967296 ^ (m.length - 1) := Nat.pow_le_pow_right (by decide) (by omega)
      omega
    · exact h
    · exfalso
      have h3 := hcV.ge (by intro e; rw [e] at h; simp at h)
      have h4 : 4294967296 ^ m.length ≤ 4294967296 ^ ((trimZ oV).length - 1) := Nat.pow_le_pow_right (by decide) (by omega)
      omega
  have htopV : 2147483648 ≤ (trimZ oV).getD ((trimZ oV).length - 1) 0 := by
    rw [valL_digit _ hcV.small, hcV.val, hlen, Nat.mod_eq_of_lt]
    · rw [Nat.le_div_iff_mul_le hBp]; exact hVlo
    · rw [Nat.div_lt_iff_lt_mul hBp, Nat.mul_comm 4294967296, ← hB]; exact hVhi
  have hVat0 : LimAt T2 T1.length 0 (m.length + 1) oV := by
    have := hV.at (c := m.length + 1) oV.length (.inr (by omega)) (by omega) (Nat.le_refl _)
    rwa [List.take_length] at this
  have htr := trim_at hVat0
  rw [hVl] at htr
  refine wl_callV #[_] (by simp -implicitDefEqProofs only [go_sem, simprocAttr]) htr ?_
  have hVat : LimAt T2 T1.length 0 (m.length + 1) (trimZ oV) := by
    obtain ⟨j, hj⟩ := trimZ_take oV
    rw [hj]; exact hVat0.take j
  have hml : m.length ≤ l.length := Classical.byContradiction fun h => by
    have := hn.len_le hd (by omega)
    omega
  have w2 : IntKind.i64.wrap (((l.length + 1 : Nat) : Int) - (m.length : Int)) = ((l.length + 1 - m.length : Nat) : Int) := by rw [w64 (by omega) (by omega)]; omega
  have w3 : IntKind.i64.wrap (((l.length + 1 - m.length : Nat) : Int) - 1) = ((l.length + 1 - m.length : Nat) : Int) - 1 := by rw [w64 (by omega) (by omega)]
  rw [hlen]
  have a1 : aLen tt [163] (.slice (some ⟨H.length, 0, none⟩) (l.length + 1) (l.length + 1)) = some (.int .i64 ((l.length + 1 : Nat) : Int)) := rfl
  have a2 : aLen tt [163] (.slice (some ⟨T1.length, 0, none⟩) m.length (m.length + 1)) = some (.int .i64 ((m.length : Nat) : Int)) := rfl
  have a3 : ∀ c, aLen tt [163] (.slice (some ⟨T2.length, 0, none⟩) (l.length + 1 - m.length) c) = some (.int .i64 ((l.length + 1 - m.length : Nat) : Int)) := fun _ => rfl
  simp -implicitDefEqProofs only [go_sem, simprocAttr, a1, a2, a3, w2, w3, make_u32 T2 .i64 .i64 (l.length + 1 - m.length) (l.length + 1 - m.length) (Nat.le_refl _) (by omega)]
  have hUlt := hU.lt
  have hVlt := hV.lt
  have hE12 := hE2.len
  have hE01 := hE1.len
  have hVp : 0 < d * 2 ^ k := by
    have : 0 < 2 ^ k := Nat.pow_pos (by decide)
    exact Nat.mul_pos h0 this
  have hcVs := hcV.small
  have hcVv := hcV.val
  generalize trimZ oV = tv at *
  refine ax_loopx (fun (j : Nat) s T => ∃ (o qs : List Nat), s 8 = .int .i64 (k : Nat) ∧ s 9 = .slice (some ⟨H.length, 0, none⟩) (l.length + 1) (l.length + 1) ∧ s 10 = .slice (some ⟨T1.length, 0, none⟩) m.length (m.length + 1) ∧
      s 11 = .slice (some ⟨T2.length, 0, none⟩) (l.length + 1 - m.length) (l.length + 1 - m.length) ∧ s 12 = .int .i64 ((j : Int) - 1) ∧ j ≤ l.length + 1 - m.length ∧ o.length = l.length + 1 ∧ qs.length = l.length + 1 - m.length ∧ small o ∧ small qs ∧
      qs.take j = List.replicate j 0 ∧ valL o < d * 2 ^ k * 4294967296 ^ j ∧ n * 2 ^ k = d * 2 ^ k * valL qs + valL o ∧ Row T H.length o ∧ Row T T2.length qs ∧ LimAt T T1.length 0 (m.length + 1) tv ∧ Ext H T) id (l.length + 1 - m.length) ?_ ?_
  · refine ⟨oU, List.replicate (l.length + 1 - m.length) 0, ?_⟩
    simp -implicitDefEqProofs only [go_sem, simprocAttr]
    refine ⟨hUl, by simp, hUs, small_zeros _, by simp, ?_, by rw [valL_zeros, hUv]; simp, ?_, Row.new _ _, hVat.app _, (hE1.trans hE2).trans (.app _ _)⟩
    · rw [hUv]
      have h3 : n * 2 ^ k < 4294967296 ^ l.length * 2147483648 := by
        have : 2 ^ k ≤ 2 ^ 31 := Nat.pow_le_pow_right (by decide) hk
        refine Nat.lt_of_le_of_lt (Nat.mul_le_mul_left n this) ?_
        exact Nat.mul_lt_mul_of_pos_right hn.lt (by decide)
      have h4 := Nat.mul_le_mul_right (4294967296 ^ (l.length + 1 - m.length)) hVlo
      have h5 : 2147483648 * 4294967296 ^ (m.length - 1) * 4294967296 ^ (l.length + 1 - m.length) = 4294967296 ^ l.length * 2147483648 := by
        rw [Nat.mul_assoc, ← Nat.pow_add, Nat.mul_comm]; congr 2; omega
      omega
    · have := hE2.get hU
      exact Row.app this _
  rintro j s T ⟨o, qs, h8, h9, h10, h11, h12, hj, ho, hq, hos, hqs, hqz, hlt2, hval, hrU, hrQ, hrV, hE⟩
  simp -implicitDefEqProofs only [go_sem, simprocAttr, h12]
  refine ax_cond2 ?_
  simp only [ev_tmp, ev_const, ev_func, upd_at, put_some, put_none, bndB_bool, Nat.reduceEqDiff, if_true, if_false, ↓reduceIte, reduceCtorEq]
  refine ⟨fun hc0 => have hc := of_decide_eq_true hc0; ?_, fun hc0 => have hc := of_decide_eq_false hc0; ?_⟩
  · obtain ⟨j, rfl⟩ : ∃ j', j = j' + 1 := ⟨j - 1, by omega⟩
    have hjj : ((j + 1 : Nat) : Int) - 1 = (j : Int) := by omega
    rw [hjj] at h12
    have i2 : (0 : Int) ≤ (j : Int) ∧ (j : Int) < ((l.length + 1 - m.length : Nat) : Int) := by omega
    have a5 : IntKind.i64.wrap ((j : Int) - 1) = (j : Int) - 1 := w64 (by omega) (by omega)
    simp -implicitDefEqProofs only [go_sem, simprocAttr, h8, h9, h10, h11, h12]
    have hdig := digit_sim (cu := l.length + 1) hrU hrV (by omega) hos hcVs rfl hcVv (by omega) (i := j) (by omega) htopV hlt2 (by omega)
    rw [hlen, ho] at hdig
    obtain ⟨_, hdig, o', rfl, ho', hos', hval'⟩ := hdig
    refine wl_callF #[_, _, _] (by simp -implicitDefEqProofs only [go_sem, simprocAttr]) hdig (fun h => by cases h) ?_
    have hqj : qs[j]'(by omega) = 0 := by
      have := congrArg (fun z => z[j]?) hqz
      simp only [List.getElem?_take, List.getElem?_replicate] at this
      rw [if_pos (by omega), if_pos (by omega), List.getElem?_eq_getElem (by omega)] at this
      simpa using this
    have hset := valL_set (l := qs) (k := j) (x := valL o / (d * 2 ^ k * 4294967296 ^ j)) (by omega)
    rw [hqj, Nat.mul_zero, Nat.add_zero] at hset
    have hVB : 0 < d * 2 ^ k * 4294967296 ^ j := Nat.mul_pos hVp (Nat.pow_pos (by decide))
    have hdm := Nat.div_add_mod (valL o) (d * 2 ^ k * 4294967296 ^ j)
    have hmod := Nat.mod_lt (valL o) hVB
    have hql : valL o / (d * 2 ^ k * 4294967296 ^ j) < 4294967296 := by
      rw [Nat.div_lt_iff_lt_mul hVB, Nat.mul_comm, Nat.mul_assoc, ← Nat.pow_succ]; exact hlt2
    have hrQ' := hrQ.other (b' := H.length) (by omega) ⟨u32s o', 1, true⟩
    have hrV' := hrV.set (b' := H.length) (by omega) ⟨u32s o', 1, true⟩
    have hrU' := hrU.set (o' := o')
    rw [← hval'] at hmod hdm
    generalize valL o / (d * 2 ^ k * 4294967296 ^ j) = q at *
    have hE' := hE.set (Nat.le_refl H.length) ⟨u32s o', 1, true⟩
    generalize List.set T H.length ⟨u32s o', 1, true⟩ = T' at *
    have hw2 := hrQ'.wr (j := j) (x := q) (by omega)
    simp -implicitDefEqProofs only [go_sem, simprocAttr, h8, h9, h10, h11, h12, aIndexAddr, i2, Nat.mul_one, hw2, a5]
    refine ⟨j, ⟨o', qs.set j q, ?_⟩, Nat.lt_succ_self j⟩
    refine ⟨rfl, by omega, by omega, by simpa using hq, hos', small_set hqs hql, ?_, hmod, ?_, hrU'.other (by omega) _, hrQ'.set, hrV'.set (by omega) _, hE'.set (by omega) _⟩
    · rw [List.take_set_of_le (Nat.le_refl _)]
      have := congrArg (List.take j) hqz
      rw [List.take_take, Nat.min_eq_left (by omega)] at this
      rw [this]; simp
    · rw [hset, hval, ← hdm, Nat.mul_add, Nat.mul_assoc (d * 2 ^ k)]; omega
  · have hj0 : j = 0 := by omega
    subst hj0
    rw [Nat.pow_zero, Nat.mul_one] at hlt2
    have hlimQ := (hrQ.at (c := l.length + 1 - m.length) (l.length + 1 - m.length) (.inr (Nat.le_refl _)) (by omega) (by omega)).lim
    rw [← hq, List.take_length] at hlimQ
    obtain ⟨uq, htq, hlq⟩ := trim_sim hlimQ
    rw [hq] at htq
    have hlimU := (hrU.at (c := l.length + 1) (l.length + 1) (.inr (Nat.le_refl _)) (by omega) (by omega)).lim
    rw [← ho, List.take_length] at hlimU
    obtain ⟨uu, htu, hlu⟩ := trim_sim hlimU
    rw [ho] at htu
    have hcq := Canl.of_trim hqs
    have hcu := Canl.of_trim hos
    have ⟨sd1, sd2⟩ := shift_div n d k
    have x1 : n / d = valL qs := by
      rw [← sd1, hval, Nat.mul_add_div hVp, Nat.div_eq_of_lt hlt2, Nat.add_zero]
    have x2 : valL (trimZ o) / 2 ^ k = n % d := by
      rw [valL_trim, ← Nat.mod_eq_of_lt hlt2, ← Nat.mul_add_mod (d * 2 ^ k) (valL qs), ← hval, sd2, Nat.mul_div_cancel _ (Nat.pow_pos (by decide))]
    simp -implicitDefEqProofs only [go_sem, simprocAttr, h8, h9, h10, h11, h12]
    refine wl_callV #[_] (by simp -implicitDefEqProofs only [go_sem, simprocAttr]) htq ?_
    simp -implicitDefEqProofs only [go_sem, simprocAttr, h9]
    refine wl_callV #[_] (by simp -implicitDefEqProofs only [go_sem, simprocAttr]) htu ?_
    simp -implicitDefEqProofs only [go_sem, simprocAttr, h8]
    refine wl_callT #[_, .int .i64 (k : Nat)] (by simp -implicitDefEqProofs only [go_sem, simprocAttr]) (unshift_sim hlu hcu.small (by have := trim_len o; omega) hk) ?_
    intro b T' hE' hLb
    simp -implicitDefEqProofs only [go_sem, simprocAttr, res216]
    rw [x2] at hLb
    rw [← x1] at hcq
    exact ⟨hE.trans hE', uq, b, rfl, ⟨_, hlq.ext hE', hcq⟩, hLb⟩
end Go.Proofs.YthhmkaikopdmjaaGreat
namespace Go.Proofs.YthhmkaikopdmjaaGreat
open Go Go.Fw
theorem pack_flag (g : Bool) (n : Nat) : (g && decide (digB n ≠ [])) = decide ((if g then -(n : Int) else n) < 0) := by
  cases g
  · simp
  · simp only [Bool.true_and, if_true, ne_eq, digB_nil_iff]
    congr 1
    apply propext
    omega
theorem pack_val (g : Bool) (n : Nat) : mkI (if g then -(n : Int) else n) = .agg #[.bool (g && decide (digB n ≠ [])), .string (bs (digB n))] := by
  rw [pack_flag]
  unfold mkI iV
  have : (if g then -(n : Int) else n).natAbs = n := by cases g <;> simp
  rw [this]
theorem pack_sim {H : Heap} {v : Value} {l : List Nat} {n : Nat} {g : Bool} (hv : Lim H v l) (hs : small l) (hn : valL l = n) (hl : l.length ≤ 1000000) :
    Sim Tryz.prog 161 #[.bool g, v] H (mkI (if g then -(n : Int) else n)) H := by
  obtain ⟨w, ht, hw⟩ := trim_sim (hv.app [⟨[.bool false, .string (bs [])], 1, true⟩])
  have hc := Canl.of_trim hs
  rw [hn] at hc
  have hst := store_sim hw hc (by have := trim_len l; omega)
  refine flat_ex (by rw [pack_val]; rfl) ?_
  rw [pack_val]
  refine sxA tok mixed Tryz.func161 ?_
  simp -implicitDefEqProofs only [go_sem, simprocAttr]
  refine wl_callV #[v] (by simp -implicitDefEqProofs only [go_sem, simprocAttr]) ht ?_
  simp -implicitDefEqProofs only [go_sem, simprocAttr]
  refine wl_callV #[_] (by simp -implicitDefEqProofs only [go_sem, simprocAttr]) hst ?_
  have hb : (digB n = []) = (bs (digB n) = bs []) := by rw [bs_inj]
  cases g
  · simp -implicitDefEqProofs only [go_sem, simprocAttr, res161]
    exact ⟨.app _ _, by simp⟩
  · simp -implicitDefEqProofs only [go_sem, simprocAttr, res161]
    exact ⟨.app _ _, by simp [bs_inj]⟩
end Go.Proofs.YthhmkaikopdmjaaGreat
namespace Go.Proofs.YthhmkaikopdmjaaGreat
open Go Go.Fw
theorem two_u32 (H : Heap) (x y : Int) : aBuildSlice tt H 163 2 [(0, .int .u32 x), (1, .int .u32 y)] = some (.slice (some ⟨H.length, 0, none⟩) 2 2, H ++ [⟨[.int .u32 x, .int .u32 y], 1, true⟩]) := rfl
theorem flat_mkI (z : Int) : flat (mkI z) = true := rfl
theorem of_sim (H : Heap) {z : Int} (h1 : -9223372036854775808 ≤ z) (h2 : z < 9223372036854775808) : Sim Tryz.prog 99 #[.int .i64 z] H (mkI z) H := by
  refine flat_ex (flat_mkI z) ?_
  obtain ⟨n, hn⟩ : ∃ n : Nat, n = z.natAbs := ⟨_, rfl⟩
  have hnl : n ≤ 9223372036854775808 := by omega
  have a1 := low_u32 n
  have a2 := fdiv_pow n 32
  have a3 := wu32n (n := n / 2 ^ 32) (by omega)
  have h32 : ¬ ((32 : Int) < 0) := by omega
  have hlim : ∀ c : Blk, Lim (H ++ [c, ⟨[.int .u32 ((n % 4294967296 : Nat) : Int), .int .u32 ((n / 2 ^ 32 : Nat) : Int)], 1, true⟩]) (.slice (some ⟨H.length + 1, 0, none⟩) 2 2) [n % 4294967296, n / 2 ^ 32] :=
    fun c => app_lim (H := H) (L := [c, ⟨u32s [n % 4294967296, n / 2 ^ 32], 1, true⟩]) (l := [n % 4294967296, n / 2 ^ 32]) (j := 1) (c := 2) rfl (.inr (by simp)) (by simp)
  have hsm : small [n % 4294967296, n / 2 ^ 32] := by intro x hx; simp at hx; omega
  have hvl : valL [n % 4294967296, n / 2 ^ 32] = n := by simp [valL]; omega
  by_cases hz : z < 0
  · have b1 : IntKind.u64.wrap z = z + 18446744073709551616 := by rw [IntKind.wrap_u64]; omega
    have b2 : IntKind.u64.wrap (0 - (z + 18446744073709551616)) = (n : Int) := by rw [IntKind.wrap_u64]; omega
    refine sxA tok mixed Tryz.func99 ?_
    simp -implicitDefEqProofs only [go_sem, simprocAttr, -Int.reducePow, -Nat.reducePow, aConv, b1, hz]
    refine ax_cond2 ?_
    simp only [ev_tmp, ev_const, ev_func, upd_at, put_some, put_none, bndB_bool, Nat.reduceEqDiff, if_true, if_false, ↓reduceIte, reduceCtorEq]
    refine ⟨fun _ => ?_, fun hc => hc.elim⟩
    simp -implicitDefEqProofs only [go_sem, simprocAttr, -Int.reducePow, -Nat.reducePow, aConv, b2, hz, a1, a2, a3, h32, min_lit32, two_u32, List.length_append]
    refine wl_callV #[.bool true, _] (by simp -implicitDefEqProofs only [go_sem, simprocAttr, -Int.reducePow, -Nat.reducePow]) (pack_sim (hlim _) hsm hvl (by simp)) ?_
    have e : (if true = true then -(n : Int) else (n : Int)) = z := by simp; omega
    rw [e]
    unfold mkI iV
    simp -implicitDefEqProofs only [go_sem, simprocAttr, -Int.reducePow, -Nat.reducePow, res99]
    first | exact .app _ _ | exact ⟨.app _ _, rfl⟩
  · have b1 : IntKind.u64.wrap z = (n : Int) := by rw [IntKind.wrap_u64]; omega
    refine sxA tok mixed Tryz.func99 ?_
    simp -implicitDefEqProofs only [go_sem, simprocAttr, -Int.reducePow, -Nat.reducePow, aConv, b1, hz]
    refine ax_cond2 ?_
    simp only [ev_tmp, ev_const, ev_func, upd_at, put_some, put_none, bndB_bool, Nat.reduceEqDiff, if_true, if_false, ↓reduceIte, reduceCtorEq]
    refine ⟨fun hc => hc.elim, fun _ => ?_⟩
    simp -implicitDefEqProofs only [go_sem, simprocAttr, -Int.reducePow, -Nat.reducePow, aConv, hz, a1, a2, a3, h32, min_lit32, two_u32, List.length_append]
    refine wl_callV #[.bool false, _] (by simp -implicitDefEqProofs only [go_sem, simprocAttr, -Int.reducePow, -Nat.reducePow]) (pack_sim (hlim _) hsm hvl (by simp)) ?_
    have e : (if false = true then -(n : Int) else (n : Int)) = z := by simp; omega
    rw [e]
    unfold mkI iV
    simp -implicitDefEqProofs only [go_sem, simprocAttr, -Int.reducePow, -Nat.reducePow, res99]
    first | exact .app _ _ | exact ⟨.app _ _, rfl⟩
theorem little_big (H : Heap) {g : Bool} {m : List UInt8} (hm : 7 < m.length) : Sim Tryz.prog 245 #[iV g m] H (.tuple #[.int .i64 0, .bool false]) H := by
  refine flat_ex rfl ?_
  have h1 : (7 : Int) < (m.length : Int) := by omega
  unfold iV
  refine sxA tok mixed Tryz.func245 ?_
  simp -implicitDefEqProofs only [go_sem, simprocAttr, -Int.reducePow, -Nat.reducePow, aLen, h1]
  refine ax_cond2 ?_
  simp only [ev_tmp, ev_const, ev_func, upd_at, put_some, put_none, bndB_bool, Nat.reduceEqDiff, if_true, if_false, ↓reduceIte, reduceCtorEq]
  refine ⟨fun _ => ?_, fun hc => hc.elim⟩
  simp -implicitDefEqProofs only [go_sem, simprocAttr, -Int.reducePow, -Nat.reducePow, res245]
  first | exact .app _ _ | exact ⟨.app _ _, rfl⟩
theorem little_small (H : Heap) {g : Bool} {m : List UInt8} (hm : m.length ≤ 7) : Sim Tryz.prog 245 #[iV g m] H (.tuple #[.int .i64 (ival g m), .bool true]) H := by
  refine flat_ex rfl ?_
  have h1 : ¬ (7 : Int) < (m.length : Int) := by omega
  have hmax : ∀ i, i ≤ 7 → 256 ^ i ≤ 72057594037927936 := fun i hi => by
    have : 256 ^ i ≤ 256 ^ 7 := Nat.pow_le_pow_right (by decide) hi
    exact this
  unfold iV
  refine sxA tok mixed Tryz.func245 ?_
  simp -implicitDefEqProofs only [go_sem, simprocAttr, -Int.reducePow, -Nat.reducePow, aLen, h1]
  refine ax_cond2 ?_
  simp only [ev_tmp, ev_const, ev_func, upd_at, put_some, put_none, bndB_bool, Nat.reduceEqDiff, if_true, if_false, ↓reduceIte, reduceCtorEq]
  refine ⟨fun hc => hc.elim, fun _ => ?_⟩
  simp -implicitDefEqProofs only [go_sem, simprocAttr, -Int.reducePow, -Nat.reducePow, aLen]
  refine ax_loopx (fun (i : Nat) s T => s 1 = .pointer (some ⟨H.length, 0, none⟩) ∧ s 4 = .int .i64 (valB (m.take i) : Nat) ∧ s 12 = .int .i64 (m.length : Nat) ∧ s 13 = .int .i64 (i : Nat) ∧ i ≤ m.length ∧ T = H ++ [⟨[.bool g, .string (bs m)], 1, true⟩]) (fun i => m.length - i) 0 ?_ ?_
  · simp -implicitDefEqProofs only [go_sem, simprocAttr, -Int.reducePow, -Nat.reducePow]
    trivial
  rintro i s T ⟨h1, h4, h12, h13, hi, hT⟩
  subst T
  simp -implicitDefEqProofs only [go_sem, simprocAttr, -Int.reducePow, -Nat.reducePow, h12, h13]
  refine ax_cond2 ?_
  simp only [ev_tmp, ev_const, ev_func, upd_at, put_some, put_none, bndB_bool, Nat.reduceEqDiff, if_true, if_false, ↓reduceIte, reduceCtorEq]
  refine ⟨fun hc0 => have hlt := of_decide_eq_true hc0; ?_, fun hc0 => have hlt := of_decide_eq_false hc0; ?_⟩
  · have hil : i < m.length := by omega
    have hg : m[i]? = some m[i] := List.getElem?_eq_getElem hil
    have hts := valB_take_succ hil
    have hvl := valB_take_lt m i
    have hvl2 := valB_take_lt m (i + 1)
    have hm1 := hmax i (by omega)
    have hm2 := hmax (i + 1) (by omega)
    have hb : m[i].toNat < 256 := UInt8.toNat_lt _
    generalize m[i] = x at *
    generalize valB (m.take i) = n at *
    have a1 : IntKind.i64.wrap ((n : Int) * 2 ^ 8) = ((n * 2 ^ 8 : Nat) : Int) := by
      rw [show ((n : Int) * 2 ^ 8) = ((n * 2 ^ 8 : Nat) : Int) by simp, w64n (by omega)]
    have a2 := w64n (n := x.toNat) (by omega)
    have a3 := or_i64 (a := n * 2 ^ 8) (b := x.toNat) (by omega) (by omega)
    have a4 : n * 2 ^ 8 ||| x.toNat = valB (m.take (i + 1)) := by rw [Nat.or_comm, or_add (by omega), hts]; omega
    rw [a4] at a3
    have a5 : IntKind.i64.wrap ((i : Int) + 1) = ((i + 1 : Nat) : Int) := by rw [w64 (by omega) (by omega)]; rfl
    have h8 : ¬ ((8 : Int) < 0) := by omega
    have hnn : (0 : Int) ≤ (i : Int) := by omega
    simp -implicitDefEqProofs only [go_sem, simprocAttr, -Int.reducePow, -Nat.reducePow, h1, h4, h12, h13, hg, aConv, a1, a2, a3, a5, h8, hnn, show min 8 64 = 8 from rfl]
    exact ⟨i + 1, ⟨rfl, rfl, by omega⟩, by omega⟩
  · have hil : i = m.length := by omega
    subst hil
    rw [List.take_length] at h4
    have hvl := valB_lt m
    have hm1 := hmax m.length (by omega)
    simp -implicitDefEqProofs only [go_sem, simprocAttr, -Int.reducePow, -Nat.reducePow, h1]
    cases g
    · refine ax_cond2 ?_
      simp only [ev_tmp, ev_const, ev_func, upd_at, put_some, put_none, bndB_bool, Nat.reduceEqDiff, if_true, if_false, ↓reduceIte, reduceCtorEq]
      refine ⟨fun hc => hc.elim, fun _ => ?_⟩
      simp -implicitDefEqProofs only [go_sem, simprocAttr, -Int.reducePow, -Nat.reducePow, h4, res245]
      first | exact .app _ _ | exact ⟨.app _ _, rfl⟩
    · have a1 : IntKind.i64.wrap (0 - (valB m : Int)) = -(valB m : Int) := by rw [w64 (by omega) (by omega)]; omega
      refine ax_cond2 ?_
      simp only [ev_tmp, ev_const, ev_func, upd_at, put_some, put_none, bndB_bool, Nat.reduceEqDiff, if_true, if_false, ↓reduceIte, reduceCtorEq]
      refine ⟨fun _ => ?_, fun hc => hc.elim⟩
      simp -implicitDefEqProofs only [go_sem, simprocAttr, -Int.reducePow, -Nat.reducePow, h4, a1, res245]
      first | exact .app _ _ | exact ⟨.app _ _, rfl⟩
end Go.Proofs.YthhmkaikopdmjaaGreat
set_option exponentiation.threshold 100
namespace Go.Proofs.YthhmkaikopdmjaaGreat
open Go Go.Fw
theorem pack_LN {H : Heap} {v : Value} {n : Nat} {g : Bool} (h : LN H v n) (hf : Fit n) : Sim Tryz.prog 161 #[.bool g, v] H (mkI (if g then -(n : Int) else n)) H := by
  obtain ⟨l, h1, h2⟩ := h
  exact pack_sim h1 h2.small h2.val (h2.short hf)
theorem fitB {m : List UInt8} (h : m.length ≤ 450000) : Fit (valB m) := valB_fit (by omega)
theorem fit_add {m m' : List UInt8} (h : m.length ≤ 450000) (h' : m'.length ≤ 450000) : Fit (valB m + valB m') := by
  have h1 := valB_lt2 m (k := 8 * m.length + 8 * m'.length) (by omega)
  have h2 := valB_lt2 m' (k := 8 * m.length + 8 * m'.length) (by omega)
  refine ⟨8 * m.length + 8 * m'.length + 1, by omega, ?_⟩
  rw [Nat.pow_succ]
  omega
theorem fit_mul {m m' : List UInt8} (h : m.length ≤ 450000) (h' : m'.length ≤ 450000) : Fit (valB m * valB m') :=
  ⟨8 * m.length + 8 * m'.length, by omega, lt_mul_pow (valB_lt2 m (Nat.le_refl _)) (valB_lt2 m' (Nat.le_refl _))⟩
theorem fit_le {n k : Nat} (h : Fit n) (hk : k ≤ n) : Fit k := by
  obtain ⟨j, h1, h2⟩ := h
  exact ⟨j, h1, by omega⟩
theorem load60 (m : List UInt8) (H : Heap) (hm : m.length ≤ 450000) : ∃ v H', Sim Tryz.prog 196 #[.string (bs m)] H v H' ∧ Ext H H' ∧ LN H' v (valB m) := load_sim m H (by omega)
theorem neg_sim (H : Heap) {g : Bool} {m : List UInt8} (hm : m.length ≤ 450000) : Sim Tryz.prog 160 #[iV g m] H (mkI (-(ival g m))) H := by
  refine flat_ex (flat_mkI _) ?_
  unfold iV
  refine sxA tok mixed Tryz.func160 ?_
  simp -implicitDefEqProofs only [go_sem, simprocAttr]
  refine ax_quiet (by kernel_rfl) ?_
  simp -implicitDefEqProofs only [go_sem, simprocAttr]
  refine wl_callX #[.string (bs m)] (by simp -implicitDefEqProofs only [go_sem, simprocAttr]) (load60 m _ hm) ?_
  intro v G hv
  simp -implicitDefEqProofs only [go_sem, simprocAttr]
  simp only [List.append_assoc, List.cons_append, List.nil_append] at hv
  refine wl_callV #[.bool (!g), v] (by simp -implicitDefEqProofs only [go_sem, simprocAttr]) (pack_LN hv (fitB hm)) ?_
  have e : (if (!g) = true then -(valB m : Int) else (valB m : Int)) = -(ival g m) := by unfold ival; cases g <;> simp
  rw [e]
  unfold mkI iV
  simp -implicitDefEqProofs only [go_sem, simprocAttr, res160]
  first | exact .app _ _ | exact ⟨.app _ _, rfl⟩
theorem beq4 (a b : Bool) : aBin tt .eql 4 (.bool a) (.bool b) = some (.bool (a == b)) := rfl
theorem bne4 (a b : Bool) : aBin tt .neq 4 (.bool a) (.bool b) = some (.bool (!(a == b))) := rfl
theorem times_LN {H : Heap} {v w : Value} {n k : Nat} (hv : LN H v n) (hw : LN H w k) (hn : Fit n) (hk : Fit k) : ∃ u H', Sim Tryz.prog 197 #[v, w] H u H' ∧ Ext H H' ∧ LN H' u (n * k) := by
  obtain ⟨l, h1, h2⟩ := hv
  obtain ⟨m, h3, h4⟩ := hw
  exact times_sim h1 h3 h2 h4 (by have := h2.short hn; omega) (by have := h4.short hk; omega)
theorem plus_LN {H : Heap} {v w : Value} {n k : Nat} (hv : LN H v n) (hw : LN H w k) (hn : Fit n) (hk : Fit k) : ∃ u H', Sim Tryz.prog 246 #[v, w] H u H' ∧ Ext H H' ∧ LN H' u (n + k) := by
  obtain ⟨l, h1, h2⟩ := hv
  obtain ⟨m, h3, h4⟩ := hw
  exact plus_sim h1 h3 h2 h4 (by have := h2.short hn; omega) (by have := h4.short hk; omega)
theorem minus_LN {H : Heap} {v w : Value} {n k : Nat} (hv : LN H v n) (hw : LN H w k) (hn : Fit n) (hk : k ≤ n) : ∃ u H', Sim Tryz.prog 247 #[v, w] H u H' ∧ Ext H H' ∧ LN H' u (n - k) := by
  obtain ⟨l, h1, h2⟩ := hv
  obtain ⟨m, h3, h4⟩ := hw
  exact minus_sim h1 h3 h2 h4 (by have := h2.short hn; omega) hk
theorem compare_LN {H : Heap} {v w : Value} {n k : Nat} (hv : LN H v n) (hw : LN H w k) (hn : Fit n) (hk : Fit k) : Sim Tryz.prog 208 #[v, w] H (.int .i64 (cmpN n k)) H := by
  obtain ⟨l, h1, h2⟩ := hv
  obtain ⟨m, h3, h4⟩ := hw
  exact compare_sim h1 h3 h2 h4 (h2.short hn) (h4.short hk)
theorem mul_sim (H : Heap) {g g' : Bool} {m m' : List UInt8} (hm : m.length ≤ 450000) (hm' : m'.length ≤ 450000) : Sim Tryz.prog 131 #[iV g m, iV g' m'] H (mkI (ival g m * ival g' m')) H := by
  refine flat_ex (flat_mkI _) ?_
  unfold iV
  refine sxA tok mixed Tryz.func131 ?_
  simp -implicitDefEqProofs only [go_sem, simprocAttr]
  refine ax_quiet (by kernel_rfl) ?_
  simp -implicitDefEqProofs only [go_sem, simprocAttr, bne4]
  refine wl_callX #[.string (bs m)] (by simp -implicitDefEqProofs only [go_sem, simprocAttr]) (load60 m _ hm) ?_
  intro v G hv
  simp -implicitDefEqProofs only [go_sem, simprocAttr]
  simp only [List.append_assoc, List.cons_append, List.nil_append] at hv
  refine wl_callX #[.string (bs m')] (by simp -implicitDefEqProofs only [go_sem, simprocAttr]) (load60 m' _ hm') ?_
  intro w G' hw
  have hv := hv.app G'
  simp -implicitDefEqProofs only [go_sem, simprocAttr]
  simp only [List.append_assoc, List.cons_append, List.nil_append] at hv hw
  refine wl_callX #[v, w] (by simp -implicitDefEqProofs only [go_sem, simprocAttr]) (times_LN hv hw (fitB hm) (fitB hm')) ?_
  intro u G2 hu
  simp -implicitDefEqProofs only [go_sem, simprocAttr]
  simp only [List.append_assoc, List.cons_append, List.nil_append] at hu
  refine wl_callV #[.bool (!(g == g')), u] (by simp -implicitDefEqProofs only [go_sem, simprocAttr]) (pack_LN hu (fit_mul hm hm')) ?_
  have e : (if (!(g == g')) = true then -((valB m * valB m' : Nat) : Int) else ((valB m * valB m' : Nat) : Int)) = ival g m * ival g' m' := by
    unfold ival; cases g <;> cases g' <;> simp [Int.neg_mul, Int.mul_neg]
  rw [e]
  unfold mkI iV
  simp -implicitDefEqProofs only [go_sem, simprocAttr, res131]
  first | exact .app _ _ | exact ⟨.app _ _, rfl⟩
theorem add_sim (H : Heap) {g g' : Bool} {m m' : List UInt8} (hm : m.length ≤ 450000) (hm' : m'.length ≤ 450000) : Sim Tryz.prog 193 #[iV g m, iV g' m'] H (mkI (ival g m + ival g' m')) H := by
  refine flat_ex (flat_mkI _) ?_
  have hil : ∀ (g : Bool) (m : List UInt8), m.length ≤ 7 → -72057594037927936 < ival g m ∧ ival g m < 72057594037927936 := by
    intro g m h
    have h1 := valB_lt m
    have h2 : 256 ^ m.length ≤ 256 ^ 7 := Nat.pow_le_pow_right (by decide) h
    have h3 : (256 : Nat) ^ 7 = 72057594037927936 := rfl
    unfold ival
    split <;> omega
  have lb := fun H => little_big H (g := g) (m := m)
  have ls := fun H => little_small H (g := g) (m := m)
  have lb' := fun H => little_big H (g := g') (m := m')
  have ls' := fun H => little_small H (g := g') (m := m')
  unfold iV at lb ls lb' ls' ⊢
  refine sxA tok mixed Tryz.func193 ?_
  simp -implicitDefEqProofs only [go_sem, simprocAttr]
  have key : ∃ (x : Int) (b : Bool), (b = true → m.length ≤ 7 ∧ x = ival g m) ∧ ∀ H, Sim Tryz.prog 245 #[.agg #[.bool g, .string (bs m)]] H (.tuple #[.int .i64 x, .bool b]) H := by
    by_cases h : m.length ≤ 7
    · exact ⟨_, true, fun _ => ⟨h, rfl⟩, fun H => ls H h⟩
    · exact ⟨_, false, (fun e => by cases e), fun H => lb H (by omega)⟩
  obtain ⟨x, b, hxb, hlit⟩ := key
  refine wl_callV #[.agg #[.bool g, .string (bs m)]] (by simp -implicitDefEqProofs only [go_sem, simprocAttr]) (hlit _) ?_
  simp -implicitDefEqProofs only [go_sem, simprocAttr]
  refine ax_mid (fun s T => s 2 = .pointer (some ⟨H.length, 0, none⟩) ∧ s 3 = .pointer (some ⟨H.length + 1, 0, none⟩) ∧ s 4 = .pointer (some ⟨H.length + 2, 0, none⟩) ∧
    T = H ++ [⟨[.bool g, .string (bs m)], 1, true⟩, ⟨[.bool g', .string (bs m')], 1, true⟩, ⟨[.bool false, .string (bs [])], 1, true⟩]) ?_ ?_
  · cases b with
    | false =>
      refine ax_cond2 ?_
      simp only [ev_tmp, ev_const, ev_func, upd_at, put_some, put_none, bndB_bool, Nat.reduceEqDiff, if_true, if_false, ↓reduceIte, reduceCtorEq]
      refine ⟨fun hc => hc.elim, fun _ => ?_⟩
      simp -implicitDefEqProofs only [go_sem, simprocAttr]
    | true =>
      refine ax_cond2 ?_
      simp only [ev_tmp, ev_const, ev_func, upd_at, put_some, put_none, bndB_bool, Nat.reduceEqDiff, if_true, if_false, ↓reduceIte, reduceCtorEq]
      refine ⟨fun _ => ?_, fun hc => hc.elim⟩
      obtain ⟨hm7, rfl⟩ := hxb rfl
      simp -implicitDefEqProofs only [go_sem, simprocAttr]
      by_cases h' : m'.length ≤ 7
      · refine wl_callV #[.agg #[.bool g', .string (bs m')]] (by simp -implicitDefEqProofs only [go_sem, simprocAttr]) (ls' _ h') ?_
        have i1 := hil g m hm7
        have i2 := hil g' m' h'
        have a1 : IntKind.i64.wrap (ival g m + ival g' m') = ival g m + ival g' m' := w64 (by omega) (by omega)
        simp -implicitDefEqProofs only [go_sem, simprocAttr]
        refine ax_cond2 ?_
        simp only [ev_tmp, ev_const, ev_func, upd_at, put_some, put_none, bndB_bool, Nat.reduceEqDiff, if_true, if_false, ↓reduceIte, reduceCtorEq]
        refine ⟨fun _ => ?_, fun hc => hc.elim⟩
        simp -implicitDefEqProofs only [go_sem, simprocAttr, a1]
        refine wl_callV #[.int .i64 (ival g m + ival g' m')] (by simp -implicitDefEqProofs only [go_sem, simprocAttr]) (of_sim _ (by omega) (by omega)) ?_
        unfold mkI iV
        simp -implicitDefEqProofs only [go_sem, simprocAttr, res193]
        first | exact .app _ _ | exact ⟨.app _ _, rfl⟩
      · refine wl_callV #[.agg #[.bool g', .string (bs m')]] (by simp -implicitDefEqProofs only [go_sem, simprocAttr]) (lb' _ (by omega)) ?_
        simp -implicitDefEqProofs only [go_sem, simprocAttr]
        refine ax_cond2 ?_
        simp only [ev_tmp, ev_const, ev_func, upd_at, put_some, put_none, bndB_bool, Nat.reduceEqDiff, if_true, if_false, ↓reduceIte, reduceCtorEq]
        refine ⟨fun hc => hc.elim, fun _ => ?_⟩
        simp -implicitDefEqProofs only [go_sem, simprocAttr]
  clear hlit hxb ls lb ls' lb'
  rintro s T ⟨h2, h3, h4, hT⟩
  subst T
  simp -implicitDefEqProofs only [go_sem, simprocAttr]
  refine ax_quiet (by kernel_rfl) ?_
  simp -implicitDefEqProofs only [go_sem, simprocAttr, h2, h3, h4]
  refine wl_callX #[.string (bs m)] (by simp -implicitDefEqProofs only [go_sem, simprocAttr]) (load60 m _ hm) ?_
  intro v G hv
  simp -implicitDefEqProofs only [go_sem, simprocAttr, h2, h3, h4]
  simp only [List.append_assoc, List.cons_append, List.nil_append] at hv
  refine wl_callX #[.string (bs m')] (by simp -implicitDefEqProofs only [go_sem, simprocAttr]) (load60 m' _ hm') ?_
  intro w G' hw
  have hv := hv.app G'
  simp only [List.append_assoc, List.cons_append, List.nil_append] at hv hw
  simp -implicitDefEqProofs only [go_sem, simprocAttr, h2, h3, h4, beq4]
  by_cases hg : g = g'
  · subst hg
    have hbb : (g == g) = true := by cases g <;> rfl
    simp -implicitDefEqProofs only [go_sem, simprocAttr, hbb]
    refine ax_cond2 ?_
    simp only [ev_tmp, ev_const, ev_func, upd_at, put_some, put_none, bndB_bool, Nat.reduceEqDiff, if_true, if_false, ↓reduceIte, reduceCtorEq]
    refine ⟨fun _ => ?_, fun hc => hc.elim⟩
    simp -implicitDefEqProofs only [go_sem, simprocAttr]
    refine ax_quiet (by kernel_rfl) ?_
    simp -implicitDefEqProofs only [go_sem, simprocAttr, h2, h3, h4]
    refine wl_callX #[v, w] (by simp -implicitDefEqProofs only [go_sem, simprocAttr]) (plus_LN hv hw (fitB hm) (fitB hm')) ?_
    intro u G2 hu
    simp only [List.append_assoc, List.cons_append, List.nil_append] at hu
    simp -implicitDefEqProofs only [go_sem, simprocAttr, h2, h3, h4]
    refine wl_callV #[.bool g, u] (by simp -implicitDefEqProofs only [go_sem, simprocAttr]) (pack_LN hu (fit_add hm hm')) ?_
    have e : (if g = true then -((valB m + valB m' : Nat) : Int) else ((valB m + valB m' : Nat) : Int)) = ival g m + ival g m' := by
      unfold ival; cases g <;> simp <;> omega
    rw [e]
    unfold mkI iV
    simp -implicitDefEqProofs only [go_sem, simprocAttr, h2, h3, h4, res193]
    first | exact .app _ _ | exact ⟨.app _ _, rfl⟩
  · have hbb : (g == g') = false := by cases g <;> cases g' <;> simp_all
    simp -implicitDefEqProofs only [go_sem, simprocAttr, hbb]
    refine ax_cond2 ?_
    simp only [ev_tmp, ev_const, ev_func, upd_at, put_some, put_none, bndB_bool, Nat.reduceEqDiff, if_true, if_false, ↓reduceIte, reduceCtorEq]
    refine ⟨fun hc => hc.elim, fun _ => ?_⟩
    simp -implicitDefEqProofs only [go_sem, simprocAttr]
    refine wl_callV #[v, w] (by simp -implicitDefEqProofs only [go_sem, simprocAttr]) (compare_LN hv hw (fitB hm) (fitB hm')) ?_
    have hcmp := @cmpN_lt (valB m) (valB m')
    generalize cmpN (valB m) (valB m') = z at *
    by_cases hlt : valB m < valB m'
    · have hz := hcmp.2 hlt
      simp -implicitDefEqProofs only [go_sem, simprocAttr, hz]
      refine ax_cond2 ?_
      simp only [ev_tmp, ev_const, ev_func, upd_at, put_some, put_none, bndB_bool, Nat.reduceEqDiff, if_true, if_false, ↓reduceIte, reduceCtorEq]
      refine ⟨fun _ => ?_, fun hc => hc.elim⟩
      simp -implicitDefEqProofs only [go_sem, simprocAttr]
      refine ax_quiet (by kernel_rfl) ?_
      simp -implicitDefEqProofs only [go_sem, simprocAttr, h2, h3, h4]
      refine wl_callX #[w, v] (by simp -implicitDefEqProofs only [go_sem, simprocAttr]) (minus_LN hw hv (fitB hm') (by omega)) ?_
      intro u G2 hu
      simp only [List.append_assoc, List.cons_append, List.nil_append] at hu
      simp -implicitDefEqProofs only [go_sem, simprocAttr, h2, h3, h4]
      refine wl_callV #[.bool g', u] (by simp -implicitDefEqProofs only [go_sem, simprocAttr]) (pack_LN hu (fit_le (fitB hm') (by omega))) ?_
      have e : (if g' = true then -((valB m' - valB m : Nat) : Int) else ((valB m' - valB m : Nat) : Int)) = ival g m + ival g' m' := by
        unfold ival; cases g <;> cases g' <;> simp at hg ⊢ <;> omega
      rw [e]
      unfold mkI iV
      simp -implicitDefEqProofs only [go_sem, simprocAttr, h2, h3, h4, res193]
      first | exact .app _ _ | exact ⟨.app _ _, rfl⟩
    · have hz : ¬ z < 0 := fun h => hlt (hcmp.1 h)
      simp -implicitDefEqProofs only [go_sem, simprocAttr, hz]
      refine ax_cond2 ?_
      simp only [ev_tmp, ev_const, ev_func, upd_at, put_some, put_none, bndB_bool, Nat.reduceEqDiff, if_true, if_false, ↓reduceIte, reduceCtorEq]
      refine ⟨fun hc => hc.elim, fun _ => ?_⟩
      simp -implicitDefEqProofs only [go_sem, simprocAttr]
      refine ax_quiet (by kernel_rfl) ?_
      simp -implicitDefEqProofs only [go_sem, simprocAttr, h2, h3, h4]
      refine wl_callX #[v, w] (by simp -implicitDefEqProofs only [go_sem, simprocAttr]) (minus_LN hv hw (fitB hm) (by omega)) ?_
      intro u G2 hu
      simp only [List.append_assoc, List.cons_append, List.nil_append] at hu
      simp -implicitDefEqProofs only [go_sem, simprocAttr, h2, h3, h4]
      refine wl_callV #[.bool g, u] (by simp -implicitDefEqProofs only [go_sem, simprocAttr]) (pack_LN hu (fit_le (fitB hm) (by omega))) ?_
      have e : (if g = true then -((valB m - valB m' : Nat) : Int) else ((valB m - valB m' : Nat) : Int)) = ival g m + ival g' m' := by
        unfold ival; cases g <;> cases g' <;> simp at hg ⊢ <;> omega
      rw [e]
      unfold mkI iV
      simp -implicitDefEqProofs only [go_sem, simprocAttr, h2, h3, h4, res193]
      first | exact .app _ _ | exact ⟨.app _ _, rfl⟩
theorem ival_not (g : Bool) (m : List UInt8) : ival (!g) m = -(ival g m) := by unfold ival; cases g <;> simp
theorem sub_sim (H : Heap) {g g' : Bool} {m m' : List UInt8} (hm : m.length ≤ 450000) (hm' : m'.length ≤ 450000) : Sim Tryz.prog 217 #[iV g m, iV g' m'] H (mkI (ival g m - ival g' m')) H := by
  refine flat_ex (flat_mkI _) ?_
  have ha := fun H => add_sim H (g := g) (g' := !g') (m := m) (m' := m') hm hm'
  rw [ival_not, ← Int.sub_eq_add_neg] at ha
  unfold iV at ha ⊢
  refine sxA tok mixed Tryz.func217 ?_
  simp -implicitDefEqProofs only [go_sem, simprocAttr]
  refine wl_callV #[_, _] (by simp -implicitDefEqProofs only [go_sem, simprocAttr]) (ha _) ?_
  unfold mkI iV
  simp -implicitDefEqProofs only [go_sem, simprocAttr, res217]
  first | exact .app _ _ | exact ⟨.app _ _, rfl⟩
end Go.Proofs.YthhmkaikopdmjaaGreat
namespace Go.Proofs.YthhmkaikopdmjaaGreat
open Go Go.Fw
theorem sgn_cmp {n k : Nat} : cmpN n k = sgn ((n : Int) - k) := by
  unfold cmpN sgn
  by_cases h : n < k
  · rw [if_pos h, if_pos (by omega)]
  · rw [if_neg h, if_neg (show ¬ ((n : Int) - k < 0) by omega)]
    by_cases h2 : k < n
    · rw [if_pos h2, if_pos (by omega)]
    · rw [if_neg h2, if_neg (by omega)]
theorem sgn_pos {z : Int} (h : 0 < z) : sgn z = 1 := by unfold sgn; rw [if_neg (by omega), if_pos h]
theorem sgn_neg {z : Int} (h : z < 0) : sgn z = -1 := by unfold sgn; rw [if_pos h]
theorem compareI_sim (H : Heap) {g g' : Bool} {m m' : List UInt8} (hm : m.length ≤ 450000) (hm' : m'.length ≤ 450000) : Sim Tryz.prog 149 #[iV g m, iV g' m'] H (.int .i64 (sgn (ival g m - ival g' m'))) H := by
  refine flat_ex rfl ?_
  unfold iV
  refine sxA tok mixed Tryz.func149 ?_
  simp -implicitDefEqProofs only [go_sem, simprocAttr]
  refine ax_quiet (by kernel_rfl) ?_
  simp -implicitDefEqProofs only [go_sem, simprocAttr]
  refine wl_callX #[.string (bs m)] (by simp -implicitDefEqProofs only [go_sem, simprocAttr]) (load60 m _ hm) ?_
  intro v G hv
  simp -implicitDefEqProofs only [go_sem, simprocAttr]
  simp only [List.append_assoc, List.cons_append, List.nil_append] at hv
  refine wl_callX #[.string (bs m')] (by simp -implicitDefEqProofs only [go_sem, simprocAttr]) (load60 m' _ hm') ?_
  intro w G' hw
  have hv := hv.app G'
  simp only [List.append_assoc, List.cons_append, List.nil_append] at hv hw
  obtain ⟨l, hl, hlc⟩ := hv
  obtain ⟨k, hk, hkc⟩ := hw
  have e1 := hl.len (tt := tt) tt163
  have e2 := hk.len (tt := tt) tt163
  have z1 := hlc.nil_iff
  have z2 := hkc.nil_iff
  have sw : ∀ {v : Value} {l : List Nat} (b b' : Bool), Lim (H ++ ⟨[.bool g, .string (bs m)], 1, true⟩ :: ⟨[.bool g', .string (bs m')], 1, true⟩ :: (G ++ G')) v l → Lim (H ++ ⟨[.bool b, .string (bs m)], 1, true⟩ :: ⟨[.bool b', .string (bs m')], 1, true⟩ :: (G ++ G')) v l := by
    intro v l b b' h
    have h1 := h.swap (cs' := [.bool b, .string (bs m)]) rfl rfl
    have h2 : Lim ((H ++ [⟨[.bool b, .string (bs m)], 1, true⟩]) ++ ⟨[.bool g', .string (bs m')], 1, true⟩ :: (G ++ G')) v l := by simpa using h1
    simpa using h2.swap (cs' := [.bool b', .string (bs m')]) rfl rfl
  have c1 := fun b b' => compare_sim (sw b b' hl) (sw b b' hk) hlc hkc (hlc.short (fitB hm)) (hkc.short (fitB hm'))
  have c2 := fun b b' => compare_sim (sw b b' hk) (sw b b' hl) hkc hlc (hkc.short (fitB hm')) (hlc.short (fitB hm))
  rw [sgn_cmp] at c1 c2
  clear sw hl hk hlc hkc
  have l0 : valB m = 0 → ¬ (0 : Int) < (l.length : Int) := fun h => by rw [z1.2 h]; simp
  have l1 : valB m ≠ 0 → (0 : Int) < (l.length : Int) := fun h => by
    have : l ≠ [] := fun e => h (z1.1 e)
    have := List.length_pos_iff.2 this
    omega
  have k0 : valB m' = 0 → ¬ (0 : Int) < (k.length : Int) := fun h => by rw [z2.2 h]; simp
  have k1 : valB m' ≠ 0 → (0 : Int) < (k.length : Int) := fun h => by
    have : k ≠ [] := fun e => h (z2.1 e)
    have := List.length_pos_iff.2 this
    omega
  unfold ival
  by_cases n0 : valB m = 0 <;> by_cases d0 : valB m' = 0
  · have f1 := l0 n0
    have f2 := k0 d0
    have s1 : sgn ((valB m : Int) - -(valB m' : Int)) = sgn ((valB m : Int) - (valB m' : Int)) := by rw [d0]; simp
    have s2 : sgn (-(valB m : Int) - (valB m' : Int)) = sgn ((valB m : Int) - (valB m' : Int)) := by rw [n0]; simp
    have s3 : sgn (-(valB m : Int) - -(valB m' : Int)) = sgn ((valB m : Int) - (valB m' : Int)) := by rw [n0, d0]; simp
    cases g <;> cases g' <;> simp -implicitDefEqProofs only [go_sem, simprocAttr, wa_cond, axC_t, axC_f, e1, e2, f1, f2, s1, s2, s3]
    all_goals refine wl_callV #[v, w] (by simp -implicitDefEqProofs only [go_sem, simprocAttr]) (c1 _ _) ?_
    all_goals simp -implicitDefEqProofs only [go_sem, simprocAttr, res149]
    all_goals first | exact .app _ _ | exact ⟨.app _ _, rfl⟩
  · have f1 := l0 n0
    have f2 := k1 d0
    have s1 : sgn ((valB m : Int) - -(valB m' : Int)) = 1 := sgn_pos (by omega)
    have s2 : sgn (-(valB m : Int) - -(valB m' : Int)) = 1 := sgn_pos (by omega)
    have s3 : sgn (-(valB m : Int) - (valB m' : Int)) = sgn ((valB m : Int) - (valB m' : Int)) := by rw [n0]; simp
    cases g <;> cases g' <;> simp -implicitDefEqProofs only [go_sem, simprocAttr, wa_cond, axC_t, axC_f, e1, e2, f1, f2, s1, s2, s3, res149]
    · refine wl_callV #[v, w] (by simp -implicitDefEqProofs only [go_sem, simprocAttr]) (c1 _ _) ?_
      simp -implicitDefEqProofs only [go_sem, simprocAttr, res149]
      first | exact .app _ _ | exact ⟨.app _ _, rfl⟩
    · first | exact .app _ _ | exact ⟨.app _ _, rfl⟩
    · refine wl_callV #[v, w] (by simp -implicitDefEqProofs only [go_sem, simprocAttr]) (c1 _ _) ?_
      simp -implicitDefEqProofs only [go_sem, simprocAttr, res149]
      first | exact .app _ _ | exact ⟨.app _ _, rfl⟩
    · first | exact .app _ _ | exact ⟨.app _ _, rfl⟩
  · have f1 := l1 n0
    have f2 := k0 d0
    have s1 : sgn (-(valB m : Int) - -(valB m' : Int)) = -1 := sgn_neg (by omega)
    have s2 : sgn (-(valB m : Int) - (valB m' : Int)) = -1 := sgn_neg (by omega)
    have s3 : sgn ((valB m : Int) - -(valB m' : Int)) = sgn ((valB m : Int) - (valB m' : Int)) := by rw [d0]; simp
    cases g <;> cases g' <;> simp -implicitDefEqProofs only [go_sem, simprocAttr, wa_cond, axC_t, axC_f, e1, e2, f1, f2, s1, s2, s3, res149]
    · refine wl_callV #[v, w] (by simp -implicitDefEqProofs only [go_sem, simprocAttr]) (c1 _ _) ?_
      simp -implicitDefEqProofs only [go_sem, simprocAttr, res149]
      first | exact .app _ _ | exact ⟨.app _ _, rfl⟩
    · refine wl_callV #[v, w] (by simp -implicitDefEqProofs only [go_sem, simprocAttr]) (c1 _ _) ?_
      simp -implicitDefEqProofs only [go_sem, simprocAttr, res149]
      first | exact .app _ _ | exact ⟨.app _ _, rfl⟩
    · first | exact .app _ _ | exact ⟨.app _ _, rfl⟩
    · first | exact .app _ _ | exact ⟨.app _ _, rfl⟩
  · have f1 := l1 n0
    have f2 := k1 d0
    have s1 : sgn ((valB m : Int) - -(valB m' : Int)) = 1 := sgn_pos (by omega)
    have s2 : sgn (-(valB m : Int) - (valB m' : Int)) = -1 := sgn_neg (by omega)
    have s3 : sgn (-(valB m : Int) - -(valB m' : Int)) = sgn ((valB m' : Int) - (valB m : Int)) := by congr 1; omega
    cases g <;> cases g' <;> simp -implicitDefEqProofs only [go_sem, simprocAttr, wa_cond, axC_t, axC_f, e1, e2, f1, f2, s1, s2, s3, res149]
    · refine wl_callV #[v, w] (by simp -implicitDefEqProofs only [go_sem, simprocAttr]) (c1 _ _) ?_
      simp -implicitDefEqProofs only [go_sem, simprocAttr, res149]
      first | exact .app _ _ | exact ⟨.app _ _, rfl⟩
    · first | exact .app _ _ | exact ⟨.app _ _, rfl⟩
    · first | exact .app _ _ | exact ⟨.app _ _, rfl⟩
    · refine wl_callV #[w, v] (by simp -implicitDefEqProofs only [go_sem, simprocAttr]) (c2 _ _) ?_
      simp -implicitDefEqProofs only [go_sem, simprocAttr, res149]
      first | exact .app _ _ | exact ⟨.app _ _, rfl⟩
end Go.Proofs.YthhmkaikopdmjaaGreat
namespace Go.Proofs.YthhmkaikopdmjaaGreat
open Go Go.Fw
theorem divide_LN {H : Heap} {v w : Value} {n d : Nat} (hv : LN H v n) (hw : LN H w d) (hn : Fit n) (hd : Fit d) (h0 : 0 < d) :
    ∃ u H', Sim Tryz.prog 216 #[v, w] H u H' ∧ Ext H H' ∧ ∃ a b, u = .tuple #[a, b] ∧ LN H' a (n / d) ∧ LN H' b (n % d) := by
  obtain ⟨l, h1, h2⟩ := hv
  obtain ⟨m, h3, h4⟩ := hw
  exact divide_sim h1 h3 h2 h4 (h2.short hn) (h4.short hd) h0
theorem LN_len {H : Heap} {v : Value} {n : Nat} (h : LN H v n) : ∃ k : Nat, aLen tt [163] v = some (.int .i64 (k : Nat)) ∧ (k = 0 ↔ n = 0) := by
  obtain ⟨l, h1, h2⟩ := h
  refine ⟨l.length, h1.len tt163, ?_⟩
  rw [← h2.nil_iff, List.length_eq_zero_iff]
theorem gcd_sim (H : Heap) {g g' : Bool} {m m' : List UInt8} (hm : m.length ≤ 450000) (hm' : m'.length ≤ 450000) : Sim Tryz.prog 158 #[iV g m, iV g' m'] H (mkI (Nat.gcd (valB m) (valB m') : Nat)) H := by
  refine flat_ex (flat_mkI _) ?_
  unfold iV
  refine sxA tok mixed Tryz.func158 ?_
  simp -implicitDefEqProofs only [go_sem, simprocAttr]
  refine ax_quiet (by kernel_rfl) ?_
  simp -implicitDefEqProofs only [go_sem, simprocAttr]
  refine wl_callX #[.string (bs m)] (by simp -implicitDefEqProofs only [go_sem, simprocAttr]) (load60 m _ hm) ?_
  intro v G hv
  simp -implicitDefEqProofs only [go_sem, simprocAttr]
  simp only [List.append_assoc, List.cons_append, List.nil_append] at hv
  refine wl_callX #[.string (bs m')] (by simp -implicitDefEqProofs only [go_sem, simprocAttr]) (load60 m' _ hm') ?_
  intro w G' hw
  have hv := hv.app G'
  simp only [List.append_assoc, List.cons_append, List.nil_append] at hv hw
  simp -implicitDefEqProofs only [go_sem, simprocAttr]
  refine ax_loopx (fun (k : Nat) s T => ∃ n G, s 4 = .pointer (some ⟨H.length + 2, 0, none⟩) ∧ LN T (s 5) n ∧ LN T (s 6) k ∧ Nat.gcd n k = Nat.gcd (valB m) (valB m') ∧ Fit n ∧ Fit k ∧
    T = H ++ ⟨[.bool g, .string (bs m)], 1, true⟩ :: ⟨[.bool g', .string (bs m')], 1, true⟩ :: ⟨[.bool false, .string (bs [])], 1, true⟩ :: G) id (valB m') ?_ ?_
  · refine ⟨valB m, G ++ G', ?_⟩
    simp -implicitDefEqProofs only [go_sem, simprocAttr]
    exact ⟨hv, hw, fitB hm, fitB hm'⟩
  clear hv hw
  rintro k s T ⟨n, G, h4, h5, h6, hg, hfn, hfk, hT⟩
  subst T
  obtain ⟨v, hs5⟩ : ∃ v, s 5 = v := ⟨_, rfl⟩
  obtain ⟨w, hs6⟩ : ∃ w, s 6 = w := ⟨_, rfl⟩
  rw [hs5] at h5
  rw [hs6] at h6
  obtain ⟨j, e1, e2⟩ := LN_len h6
  simp -implicitDefEqProofs only [go_sem, simprocAttr, hs5, hs6, e1]
  refine ax_cond2 ?_
  simp only [ev_tmp, ev_const, ev_func, upd_at, put_some, put_none, bndB_bool, Nat.reduceEqDiff, if_true, if_false, ↓reduceIte, reduceCtorEq]
  refine ⟨fun hc0 => have hc := of_decide_eq_true hc0; ?_, fun hc0 => have hc := of_decide_eq_false hc0; ?_⟩
  · have hk : 0 < k := by
      refine Nat.pos_of_ne_zero fun h => ?_
      have := e2.2 h
      omega
    simp -implicitDefEqProofs only [go_sem, simprocAttr, hs5, hs6]
    refine wl_callX #[v, w] (by simp -implicitDefEqProofs only [go_sem, simprocAttr]) (divide_LN h5 h6 hfn hfk hk) ?_
    rintro u G2 ⟨a, b, rfl, ha, hb⟩
    have h6 := h6.app G2
    simp only [List.append_assoc, List.cons_append, List.nil_append] at h6 hb
    simp -implicitDefEqProofs only [go_sem, simprocAttr, h4, hs5, hs6]
    refine ⟨n % k, ⟨k, G ++ G2, h6, hb, ?_, hfk, fit_le hfk (Nat.le_of_lt (Nat.mod_lt _ hk)), rfl⟩, Nat.mod_lt _ hk⟩
    rw [← hg, Nat.gcd_comm n k, Nat.gcd_comm k (n % k), ← Nat.gcd_rec]
  · have hk : k = 0 := by
      refine e2.1 ?_
      omega
    subst hk
    simp -implicitDefEqProofs only [go_sem, simprocAttr, h4, hs5]
    refine wl_callV #[.bool false, v] (by simp -implicitDefEqProofs only [go_sem, simprocAttr]) (pack_LN h5 hfn) ?_
    have e : (if false = true then -(n : Int) else (n : Int)) = ((Nat.gcd (valB m) (valB m') : Nat) : Int) := by
      rw [← hg, Nat.gcd_zero_right]; simp
    rw [e]
    unfold mkI iV
    simp -implicitDefEqProofs only [go_sem, simprocAttr, h4, res158]
    first | exact .app _ _ | exact ⟨.app _ _, rfl⟩
theorem floor_uniq {a b q r : Int} (h : a = b * q + r) (hr : (0 ≤ r ∧ r < b) ∨ (b < r ∧ r ≤ 0)) : q = a.fdiv b ∧ r = a.fmod b := by
  rcases hr with ⟨h1, h2⟩ | ⟨h1, h2⟩
  · have hb : 0 < b := by omega
    have := (Int.ediv_emod_unique (a := a) (q := q) (r := r) hb).2 ⟨by omega, h1, h2⟩
    rw [Int.fdiv_eq_ediv_of_nonneg _ (by omega), Int.fmod_eq_emod_of_nonneg _ (by omega)]
    exact ⟨this.1.symm, this.2.symm⟩
  · have hb : 0 < -b := by omega
    have := (Int.ediv_emod_unique (a := -a) (b := -b) (q := q) (r := -r) hb).2 ⟨by rw [h, Int.neg_mul]; omega, by omega, by omega⟩
    rw [← Int.neg_fdiv_neg, Int.fdiv_eq_ediv_of_nonneg _ (by omega : (0 : Int) ≤ -b)]
    refine ⟨this.1.symm, ?_⟩
    have e := Int.mul_fdiv_add_fmod a b
    rw [← Int.neg_fdiv_neg, Int.fdiv_eq_ediv_of_nonneg _ (by omega : (0 : Int) ≤ -b), this.1] at e
    omega
end Go.Proofs.YthhmkaikopdmjaaGreat
namespace Go.Proofs.YthhmkaikopdmjaaGreat
open Go Go.Fw
def sgI (g : Bool) (n : Nat) : Int := if g then -(n : Int) else n
theorem pack_sg {H : Heap} {v : Value} {n : Nat} {g : Bool} (h : LN H v n) (hf : Fit n) : Sim Tryz.prog 161 #[.bool g, v] H (mkI (sgI g n)) H := pack_LN h hf
theorem sgI_abs (g : Bool) (n : Nat) : (sgI g n).natAbs = n := by unfold sgI; cases g <;> simp
theorem ival_sg (g : Bool) (m : List UInt8) : ival g m = sgI g (valB m) := rfl
theorem div_law (g g' : Bool) (n d : Nat) (hd : 0 < d) :
    (g = g' ∨ n % d = 0 → sgI (!(g == g')) (n / d) = (sgI g n).fdiv (sgI g' d) ∧ sgI g (n % d) = (sgI g n).fmod (sgI g' d)) ∧
    (¬ (g = g' ∨ n % d = 0) → sgI (!(g == g')) (n / d) - 1 = (sgI g n).fdiv (sgI g' d) ∧ sgI g (n % d) + sgI g' d = (sgI g n).fmod (sgI g' d)) := by
  have e : (d : Int) * ((n / d : Nat) : Int) + ((n % d : Nat) : Int) = n := by
    have := Nat.div_add_mod n d
    exact_mod_cast this
  have hm := Nat.mod_lt n hd
  generalize n / d = q at *
  generalize n % d = r at *
  have e2 : (d : Int) * -(q : Int) = -((d : Int) * q) := Int.mul_neg _ _
  have e3 : -(d : Int) * -(q : Int) = (d : Int) * q := Int.neg_mul_neg _ _
  have e4 : -(d : Int) * (q : Int) = -((d : Int) * q) := Int.neg_mul _ _
  have e5 : (d : Int) * (-(q : Int) - 1) = -((d : Int) * q) - d := by rw [Int.mul_sub, e2, Int.mul_one]
  have e6 : -(d : Int) * (-(q : Int) - 1) = (d : Int) * q + d := by rw [Int.mul_sub, e3, Int.mul_one]; omega
  unfold sgI
  constructor
  · intro h
    cases g <;> cases g' <;> simp only [reduceCtorEq, false_or, true_or, Bool.false_eq_true, if_false, if_true, beq_self_eq_true, Bool.not_true, Bool.not_false, show (true == false) = false from rfl, show (false == true) = false from rfl] at h ⊢
    · exact floor_uniq (by omega) (by omega)
    · exact floor_uniq (by omega) (by omega)
    · exact floor_uniq (by omega) (by omega)
    · exact floor_uniq (by omega) (by omega)
  · intro h
    cases g <;> cases g' <;> simp only [reduceCtorEq, false_or, true_or, not_true_eq_false, not_false_eq_true, Bool.false_eq_true, if_false, if_true, beq_self_eq_true, Bool.not_true, Bool.not_false, show (true == false) = false from rfl, show (false == true) = false from rfl] at h ⊢
    · exact floor_uniq (by omega) (by omega)
    · exact floor_uniq (by omega) (by omega)
theorem subI (H : Heap) {v w : Value} {x y : Int} {k k' : Nat} (hv : IA v x k) (hw : IA w y k') (hk : k ≤ 3600000) (hk' : k' ≤ 3600000) : Sim Tryz.prog 217 #[v, w] H (mkI (x - y)) H := by
  obtain ⟨g, m, rfl, rfl, h⟩ := hv
  obtain ⟨g', m', rfl, rfl, h'⟩ := hw
  exact sub_sim H (by omega) (by omega)
theorem addI (H : Heap) {v w : Value} {x y : Int} {k k' : Nat} (hv : IA v x k) (hw : IA w y k') (hk : k ≤ 3600000) (hk' : k' ≤ 3600000) : Sim Tryz.prog 193 #[v, w] H (mkI (x + y)) H := by
  obtain ⟨g, m, rfl, rfl, h⟩ := hv
  obtain ⟨g', m', rfl, rfl, h'⟩ := hw
  exact add_sim H (by omega) (by omega)
theorem mulI (H : Heap) {v w : Value} {x y : Int} {k k' : Nat} (hv : IA v x k) (hw : IA w y k') (hk : k ≤ 3600000) (hk' : k' ≤ 3600000) : Sim Tryz.prog 131 #[v, w] H (mkI (x * y)) H := by
  obtain ⟨g, m, rfl, rfl, h⟩ := hv
  obtain ⟨g', m', rfl, rfl, h'⟩ := hw
  exact mul_sim H (by omega) (by omega)
theorem negI (H : Heap) {v : Value} {x : Int} {k : Nat} (hv : IA v x k) (hk : k ≤ 3600000) : Sim Tryz.prog 160 #[v] H (mkI (-x)) H := by
  obtain ⟨g, m, rfl, rfl, h⟩ := hv
  exact neg_sim H (by omega)
theorem gcdI (H : Heap) {v w : Value} {x y : Int} {k k' : Nat} (hv : IA v x k) (hw : IA w y k') (hk : k ≤ 3600000) (hk' : k' ≤ 3600000) : Sim Tryz.prog 158 #[v, w] H (mkI (Nat.gcd x.natAbs y.natAbs : Nat)) H := by
  obtain ⟨g, m, rfl, rfl, h⟩ := hv
  obtain ⟨g', m', rfl, rfl, h'⟩ := hw
  rw [ival_abs, ival_abs]
  exact gcd_sim H (by omega) (by omega)
theorem cmpI (H : Heap) {v w : Value} {x y : Int} {k k' : Nat} (hv : IA v x k) (hw : IA w y k') (hk : k ≤ 3600000) (hk' : k' ≤ 3600000) : Sim Tryz.prog 149 #[v, w] H (.int .i64 (sgn (x - y))) H := by
  obtain ⟨g, m, rfl, rfl, h⟩ := hv
  obtain ⟨g', m', rfl, rfl, h'⟩ := hw
  exact compareI_sim H (by omega) (by omega)
theorem div_sim (H : Heap) {g g' : Bool} {m m' : List UInt8} (hm : m.length ≤ 375000) (hm' : m'.length ≤ 375000) (h0 : 0 < valB m') :
    Sim Tryz.prog 159 #[iV g m, iV g' m'] H (.tuple #[mkI ((ival g m).fdiv (ival g' m')), mkI ((ival g m).fmod (ival g' m')), .int .i64 0]) H := by
  refine flat_ex rfl ?_
  have hlaw := div_law g g' (valB m) (valB m') h0
  have hq : (digB (valB m / valB m')).length ≤ 450000 := by
    refine Nat.le_trans (digB_len _ m.length ?_) (by omega)
    exact Nat.lt_of_le_of_lt (Nat.div_le_self _ _) (valB_lt m)
  have hr : (digB (valB m % valB m')).length ≤ 450000 := by
    refine Nat.le_trans (digB_len _ m'.length ?_) (by omega)
    exact Nat.lt_trans (Nat.mod_lt _ h0) (valB_lt m')
  have hqI : ∀ g, IA (mkI (sgI g (valB m / valB m'))) (sgI g (valB m / valB m')) 3600000 := fun g => ⟨_, _, rfl, ival_mk _, by rw [sgI_abs]; omega⟩
  have hrI : ∀ g, IA (mkI (sgI g (valB m % valB m'))) (sgI g (valB m % valB m')) 3600000 := fun g => ⟨_, _, rfl, ival_mk _, by rw [sgI_abs]; omega⟩
  have hrm : (∃ x, mkI (sgI g (valB m % valB m')) = .agg #[.bool x, .string (bs (digB (valB m % valB m')))]) := ⟨_, by
    unfold mkI iV
    rw [sgI_abs]⟩
  have hqm : (∃ x n, mkI (sgI (!(g == g')) (valB m / valB m')) = .agg #[.bool x, .string n]) := ⟨_, _, rfl⟩
  have hnil : (bs (digB (valB m % valB m')) = bs []) ↔ valB m % valB m' = 0 := by rw [bs_inj, digB_nil_iff]
  rw [ival_sg, ival_sg]
  have hbI : sgI g' (valB m') = ival g' m' := rfl
  unfold iV
  refine sxA tok mixed Tryz.func159 ?_
  simp -implicitDefEqProofs only [go_sem, simprocAttr]
  refine wl_callX #[.string (bs m')] (by simp -implicitDefEqProofs only [go_sem, simprocAttr]) (load60 m' _ (by omega)) ?_
  intro v G hv
  simp only [List.append_assoc, List.cons_append, List.nil_append] at hv
  obtain ⟨j, e1, e2⟩ := LN_len hv
  have hj : ¬ (j : Int) = 0 := fun h => by have := e2.1 (by omega); omega
  simp -implicitDefEqProofs only [go_sem, simprocAttr, e1, hj]
  refine ax_cond2 ?_
  simp only [ev_tmp, ev_const, ev_func, upd_at, put_some, put_none, bndB_bool, Nat.reduceEqDiff, if_true, if_false, ↓reduceIte, reduceCtorEq]
  refine ⟨fun hc => hc.elim, fun _ => ?_⟩
  simp -implicitDefEqProofs only [go_sem, simprocAttr]
  refine wl_callX #[.string (bs m)] (by simp -implicitDefEqProofs only [go_sem, simprocAttr]) (load60 m _ (by omega)) ?_
  intro w G' hw
  have hv := hv.app G'
  simp only [List.append_assoc, List.cons_append, List.nil_append] at hv hw
  simp -implicitDefEqProofs only [go_sem, simprocAttr]
  refine wl_callX #[w, v] (by simp -implicitDefEqProofs only [go_sem, simprocAttr]) (divide_LN hw hv (fitB (by omega)) (fitB (by omega)) h0) ?_
  rintro u G2 ⟨a, b, rfl, ha, hb⟩
  simp only [List.append_assoc, List.cons_append, List.nil_append] at ha hb
  have fq : Fit (valB m / valB m') := fit_le (fitB (m := m) (by omega)) (Nat.div_le_self _ _)
  have fr : Fit (valB m % valB m') := fit_le (fitB (m := m) (by omega)) (Nat.mod_le _ _)
  simp -implicitDefEqProofs only [go_sem, simprocAttr]
  refine ax_quiet (by kernel_rfl) ?_
  simp -implicitDefEqProofs only [go_sem, simprocAttr, bne4]
  refine wl_callV #[.bool (!(g == g')), a] (by simp -implicitDefEqProofs only [go_sem, simprocAttr]) (pack_sg ha fq) ?_
  simp -implicitDefEqProofs only [go_sem, simprocAttr]
  refine wl_callV #[.bool g, b] (by simp -implicitDefEqProofs only [go_sem, simprocAttr]) (pack_sg hb fr) ?_
  clear ha hb hv hw fq fr e1 e2 hj
  generalize G ++ (G' ++ G2) = G3
  obtain ⟨rg, hrm⟩ := hrm
  obtain ⟨qg, qn, hqm⟩ := hqm
  simp -implicitDefEqProofs only [go_sem, simprocAttr, hrm, hqm]
  generalize bs (digB (valB m % valB m')) = rs at hnil hrm ⊢
  have hQ := hqI (!(g == g'))
  have hR := hrI g
  rw [hqm] at hQ
  rw [hrm] at hR
  by_cases hz : valB m % valB m' = 0
  · have hz2 := hnil.2 hz
    subst hz2
    obtain ⟨x1, x2⟩ := hlaw.1 (.inr hz)
    simp -implicitDefEqProofs only [go_sem, simprocAttr, wa_cond, axC_t, axC_f]
    refine ax_cross5 (v0 := .agg #[.bool qg, .string qn]) (v1 := .agg #[.bool rg, .string (bs [])]) ⟨by kernel_rfl, by kernel_rfl, by kernel_rfl, by kernel_rfl, by kernel_rfl, by kernel_rfl⟩ (by kernel_rfl) (by kernel_rfl) (by decide)
      (by simp -implicitDefEqProofs only [go_sem, simprocAttr]) (by simp -implicitDefEqProofs only [go_sem, simprocAttr]) (by simp -implicitDefEqProofs only [go_sem, simprocAttr]; rfl) (by simp -implicitDefEqProofs only [go_sem, simprocAttr]) (by simp -implicitDefEqProofs only [go_sem, simprocAttr]; rfl) ?_
    simp -implicitDefEqProofs only [go_sem, simprocAttr, res159]
    rw [← x1, ← x2, hqm, hrm]
    first | exact .app _ _ | exact ⟨.app _ _, rfl⟩
  have hz2 : ¬ rs = bs [] := fun h => hz (hnil.1 h)
  by_cases hg : g = g'
  · obtain ⟨x1, x2⟩ := hlaw.1 (.inl hg)
    have hbb : (!(g == g')) = false := by subst hg; cases g <;> rfl
    simp -implicitDefEqProofs only [go_sem, simprocAttr, wa_cond, axC_t, axC_f, hz2, bne4, hbb]
    refine ax_cross5 (v0 := .agg #[.bool qg, .string qn]) (v1 := .agg #[.bool rg, .string rs]) ⟨by kernel_rfl, by kernel_rfl, by kernel_rfl, by kernel_rfl, by kernel_rfl, by kernel_rfl⟩ (by kernel_rfl) (by kernel_rfl) (by decide)
      (by simp -implicitDefEqProofs only [go_sem, simprocAttr]) (by simp -implicitDefEqProofs only [go_sem, simprocAttr]) (by simp -implicitDefEqProofs only [go_sem, simprocAttr]; rfl) (by simp -implicitDefEqProofs only [go_sem, simprocAttr]) (by simp -implicitDefEqProofs only [go_sem, simprocAttr]; rfl) ?_
    simp -implicitDefEqProofs only [go_sem, simprocAttr, res159]
    rw [← x1, ← x2, hqm, hrm]
    first | exact .app _ _ | exact ⟨.app _ _, rfl⟩
  · obtain ⟨x1, x2⟩ := hlaw.2 (fun h => h.elim hg hz)
    have hbb : (!(g == g')) = true := by cases g <;> cases g' <;> simp_all
    have hs1 := fun H => subI H hQ (IA.mk (z := 1) (k := 8) (by decide)) (Nat.le_refl _) (by decide)
    have hs2 := fun H => addI H hR (IA.raw g' m' (k := 3600000) (by omega)) (Nat.le_refl _) (Nat.le_refl _)
    unfold iV at hs2
    rw [x1] at hs1
    rw [← hbI, x2] at hs2
    have hof := fun H => of_sim H (z := 1) (by decide) (by decide)
    obtain ⟨b1, s1, h1⟩ : ∃ b s, mkI ((sgI g (valB m)).fdiv (sgI g' (valB m'))) = .agg #[.bool b, .string s] := ⟨_, _, rfl⟩
    obtain ⟨b2, s2, h2⟩ : ∃ b s, mkI ((sgI g (valB m)).fmod (sgI g' (valB m'))) = .agg #[.bool b, .string s] := ⟨_, _, rfl⟩
    rw [h1] at hs1 ⊢
    rw [h2] at hs2 ⊢
    simp -implicitDefEqProofs only [go_sem, simprocAttr, wa_cond, axC_t, axC_f, hz2, bne4, hbb]
    refine ax_quiet (by kernel_rfl) ?_
    simp -implicitDefEqProofs only [go_sem, simprocAttr]
    refine wl_callV #[.int .i64 1] (by simp -implicitDefEqProofs only [go_sem, simprocAttr]) (hof _) ?_
    simp -implicitDefEqProofs only [go_sem, simprocAttr]
    refine wl_callV #[.agg #[.bool qg, .string qn], mkI 1] (by simp -implicitDefEqProofs only [go_sem, simprocAttr]) (hs1 _) ?_
    simp -implicitDefEqProofs only [go_sem, simprocAttr]
    refine wl_callV #[.agg #[.bool rg, .string rs], .agg #[.bool g', .string (bs m')]] (by simp -implicitDefEqProofs only [go_sem, simprocAttr]) (hs2 _) ?_
    simp -implicitDefEqProofs only [go_sem, simprocAttr]
    refine ax_cross5 (v0 := .agg #[.bool b1, .string s1]) (v1 := .agg #[.bool b2, .string s2]) ⟨by kernel_rfl, by kernel_rfl, by kernel_rfl, by kernel_rfl, by kernel_rfl, by kernel_rfl⟩ (by kernel_rfl) (by kernel_rfl) (by decide)
      (by simp -implicitDefEqProofs only [go_sem, simprocAttr]) (by simp -implicitDefEqProofs only [go_sem, simprocAttr]) (by simp -implicitDefEqProofs only [go_sem, simprocAttr]; rfl) (by simp -implicitDefEqProofs only [go_sem, simprocAttr]) (by simp -implicitDefEqProofs only [go_sem, simprocAttr]; rfl) ?_
    simp -implicitDefEqProofs only [go_sem, simprocAttr, res159]
    first | exact .app _ _ | exact ⟨.app _ _, rfl⟩
theorem divI (H : Heap) {v w : Value} {x y : Int} {k k' : Nat} (hv : IA v x k) (hw : IA w y k') (hk : k ≤ 3000000) (hk' : k' ≤ 3000000) (h0 : y ≠ 0) : Sim Tryz.prog 159 #[v, w] H (.tuple #[mkI (x.fdiv y), mkI (x.fmod y), .int .i64 0]) H := by
  obtain ⟨g, m, rfl, rfl, h⟩ := hv
  obtain ⟨g', m', rfl, rfl, h'⟩ := hw
  exact div_sim H (by omega) (by omega) (by have := ival_abs g' m'; omega)
end Go.Proofs.YthhmkaikopdmjaaGreat
namespace Go.Proofs.YthhmkaikopdmjaaGreat
open Go Go.Fw
theorem integer_sim (H : Heap) (g : Bool) (m : List UInt8) : Sim Tryz.prog 156 #[.bool g, .string (bs m)] H (iV g m) H := by
  refine flat_ex rfl ?_
  unfold iV
  refine sxA tok mixed Tryz.func156 ?_
  simp -implicitDefEqProofs only [go_sem, simprocAttr, res156]
  first | exact .app _ _ | exact ⟨.app _ _, rfl⟩
theorem sgn_zero {x y : Int} : sgn (x - y) = 0 ↔ x = y := by
  unfold sgn
  by_cases h : x - y < 0
  · rw [if_pos h]; omega
  · rw [if_neg h]
    by_cases h2 : 0 < x - y
    · rw [if_pos h2]; omega
    · rw [if_neg h2]; omega
theorem is_sim (H : Heap) {v : Value} {z n : Int} {k : Nat} (hv : IA v z k) (hk : k ≤ 3600000) (h1 : -9223372036854775808 ≤ n) (h2 : n < 9223372036854775808) : Sim Tryz.prog 157 #[v, .int .i64 n] H (.bool (decide (z = n))) H := by
  refine flat_ex rfl ?_
  have hn : n.natAbs < 2 ^ 64 := by omega
  have hc := fun H => cmpI H hv (IA.mk hn) hk (by decide)
  have hz := @sgn_zero z n
  generalize sgn (z - n) = c at *
  obtain ⟨g, m, rfl, rfl, h⟩ := hv
  unfold iV at hc ⊢
  refine sxA tok mixed Tryz.func157 ?_
  simp -implicitDefEqProofs only [go_sem, simprocAttr]
  refine ax_quiet (by kernel_rfl) ?_
  simp -implicitDefEqProofs only [go_sem, simprocAttr]
  refine wl_callV #[.int .i64 n] (by simp -implicitDefEqProofs only [go_sem, simprocAttr]) (of_sim _ h1 h2) ?_
  simp -implicitDefEqProofs only [go_sem, simprocAttr]
  refine wl_callV #[_, mkI n] (by simp -implicitDefEqProofs only [go_sem, simprocAttr]) (hc _) ?_
  simp -implicitDefEqProofs only [go_sem, simprocAttr, res157, hz]
  first | exact .app _ _ | exact ⟨.app _ _, rfl⟩
theorem of_rat (H : Heap) {g : Bool} {n d : List UInt8} (hd : d.length ≤ 450000) : Sim Tryz.prog 96 #[qV g n d] H (ofV g n d) H := by
  refine flat_ex rfl ?_
  have his := fun H => is_sim H (n := 0) (IA.raw false d (k := 3600000) (by omega)) (by decide) (by decide) (by decide)
  have hof := fun H => of_sim H (z := 1) (by decide) (by decide)
  have hz : ival false d = 0 ↔ valB d = 0 := by unfold ival; simp
  simp only [hz] at his
  unfold qV ofV fV
  unfold iV at his
  refine sxA tok mixed Tryz.func96 ?_
  simp -implicitDefEqProofs only [go_sem, simprocAttr]
  refine ax_quiet (by kernel_rfl) ?_
  simp -implicitDefEqProofs only [go_sem, simprocAttr]
  refine wl_callV #[.bool g, .string (bs n)] (by simp -implicitDefEqProofs only [go_sem, simprocAttr]) (integer_sim _ _ _) ?_
  simp -implicitDefEqProofs only [go_sem, simprocAttr, iV]
  refine wl_callV #[.bool false, .string (bs d)] (by simp -implicitDefEqProofs only [go_sem, simprocAttr]) (integer_sim _ _ _) ?_
  simp -implicitDefEqProofs only [go_sem, simprocAttr, iV]
  refine wl_callV #[_, .int .i64 0] (by simp -implicitDefEqProofs only [go_sem, simprocAttr]) (his _) ?_
  by_cases h0 : valB d = 0
  · simp -implicitDefEqProofs only [go_sem, simprocAttr, wa_cond, axC_t, axC_f, h0]
    refine wl_callV #[.int .i64 1] (by simp -implicitDefEqProofs only [go_sem, simprocAttr]) (hof _) ?_
    simp -implicitDefEqProofs only [go_sem, simprocAttr, mkI, iV, res96]
    first | exact .app _ _ | exact ⟨.app _ _, rfl⟩
  · simp -implicitDefEqProofs only [go_sem, simprocAttr, wa_cond, axC_t, axC_f, h0, res96]
    first | exact .app _ _ | exact ⟨.app _ _, rfl⟩
end Go.Proofs.YthhmkaikopdmjaaGreat
namespace Go.Proofs.YthhmkaikopdmjaaGreat
open Go Go.Fw
theorem number_sim (H : Heap) {v : Value} {n : Int} {d k : Nat} (hv : FV v n d k) (hk : k ≤ 2990000) (hd : 0 < d) : Sim Tryz.prog 97 #[v] H (mkQ (mkRat n d)) H := by
  refine flat_ex rfl ?_
  obtain ⟨g, m, g', m', rfl, hn, hdv, h1, h2⟩ := hv
  have hN : IA (iV g m) n k := ⟨g, m, rfl, hn, h1⟩
  have hD : IA (iV g' m') d k := ⟨g', m', rfl, hdv, h2⟩
  have his := fun H => is_sim H (n := 0) hN (by omega) (by decide) (by decide)
  have hg := fun H => gcdI H hN hD (by omega) (by omega)
  rw [Int.natAbs_natCast] at hg
  have hgp : 0 < Nat.gcd n.natAbs d := Nat.gcd_pos_of_pos_right _ hd
  have hgd : Nat.gcd n.natAbs d ≤ d := Nat.gcd_le_right _ hd
  have hds := hD.sz
  rw [Int.natAbs_natCast] at hds
  have hG : IA (mkI (Nat.gcd n.natAbs d : Nat)) (Nat.gcd n.natAbs d : Nat) (k + 7) := IA.mk (by rw [Int.natAbs_natCast]; omega)
  have hdn : (Nat.gcd n.natAbs d) ∣ d := Nat.gcd_dvd_right _ _
  rw [mkQ_pos hd]
  have hG0 : n = 0 → Nat.gcd n.natAbs d = d := by rintro rfl; simp
  have hneg : (n / ((Nat.gcd n.natAbs d : Nat) : Int) < 0) ↔ n < 0 := by rw [← mkRat_num' n hd]; exact mkRat_neg_iff n hd
  generalize Nat.gcd n.natAbs d = G at *
  have hv1 := fun H => divI H hN hG (by omega) (by omega) (by omega)
  have hv2 := fun H => divI H hD hG (by omega) (by omega) (by omega)
  rw [gcd_fdiv _ _ hgp] at hv1 hv2
  have hq : ((d : Int) / (G : Int)) = ((d / G : Nat) : Int) := rfl
  rw [hq] at hv2
  have hQ : IA (mkI (d / G : Nat)) (d / G : Nat) (k + 7) := IA.mk (by rw [Int.natAbs_natCast]; have := Nat.div_le_self d G; omega)
  have his2 := fun H => is_sim H (n := 1) hQ (by omega) (by decide) (by decide)
  generalize hQd : d / G = D at *
  have hD1 : (((D : Nat) : Int) = 1) ↔ D = 1 := by omega
  simp only [hD1] at his2
  unfold iV at his hg hv1 hv2
  have hm2 : mkI ((D : Nat) : Int) = .agg #[.bool false, .string (bs (digB D))] := by unfold mkI iV; simp
  have hm1 : mkI (n / (G : Int)) = .agg #[.bool (decide (n < 0)), .string (bs (digB (n / (G : Int)).natAbs))] := by unfold mkI iV; simp only [hneg]
  rw [hm1] at hv1
  rw [hm2] at hv2 his2
  unfold fV qV
  refine sxA tok mixed Tryz.func97 ?_
  simp -implicitDefEqProofs only [go_sem, simprocAttr]
  refine wl_callV #[_, .int .i64 0] (by simp -implicitDefEqProofs only [go_sem, simprocAttr]) (his _) ?_
  by_cases h0 : n = 0
  · simp -implicitDefEqProofs only [go_sem, simprocAttr, wa_cond, axC_t, axC_f, h0, res97]
    subst h0
    have e0 : (digB (0 / (G : Int)).natAbs) = [] := by simp [digB_zero]
    have hD1 : D = 1 := by rw [← hQd, hG0 rfl]; exact Nat.div_self hd
    subst hD1
    rw [e0]
    first | exact .app _ _ | exact ⟨.app _ _, rfl⟩
  · simp -implicitDefEqProofs only [go_sem, simprocAttr, wa_cond, axC_t, axC_f, h0]
    refine wl_callV #[_, _] (by simp -implicitDefEqProofs only [go_sem, simprocAttr]) (hg _) ?_
    simp -implicitDefEqProofs only [go_sem, simprocAttr, mkI, iV]
    refine wl_callV #[_, mkI (G : Nat)] (by simp -implicitDefEqProofs only [go_sem, simprocAttr, mkI, iV]) (hv1 _) ?_
    simp -implicitDefEqProofs only [go_sem, simprocAttr, mkI, iV]
    refine wl_callV #[_, mkI (G : Nat)] (by simp -implicitDefEqProofs only [go_sem, simprocAttr, mkI, iV]) (hv2 _) ?_
    simp -implicitDefEqProofs only [go_sem, simprocAttr, mkI, iV]
    refine wl_callV #[_, .int .i64 1] (by simp -implicitDefEqProofs only [go_sem, simprocAttr, mkI, iV]) (his2 _) ?_
    by_cases h1 : D = 1
    · simp -implicitDefEqProofs only [go_sem, simprocAttr, wa_cond, axC_t, axC_f, h1, res97, denB]
      first | exact .app _ _ | exact ⟨.app _ _, rfl⟩
    · simp -implicitDefEqProofs only [go_sem, simprocAttr, wa_cond, axC_t, axC_f, h1, res97, denB]
      first | exact .app _ _ | exact ⟨.app _ _, rfl⟩
end Go.Proofs.YthhmkaikopdmjaaGreat
