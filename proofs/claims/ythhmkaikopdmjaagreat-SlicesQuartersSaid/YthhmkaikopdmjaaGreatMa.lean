/- The types of this seat's translation, as a table; the equations by which texts are walked, as one set. Conditions: none. -/
import Derived.Test.YthhmkaikopdmjaaGreatProg
import Derived.Test.YthhmkaikopdmjaaGreatFb
import Derived.KernelRfl
import Derived.Test.YthhmkaikopdmjaaGreatFc
set_option linter.unusedSimpArgs false
set_option linter.unusedVariables false
namespace Go.Proofs.YthhmkaikopdmjaaGreat
open Go Go.Fw

def tt : TT
  | 3 => some ⟨.int .i64, 1, 8, (.int .i64 0), none⟩
  | 4 => some ⟨.bool, 1, 1, (.bool false), none⟩
  | 5 => some ⟨.int .u8, 1, 1, (.int .u8 0), none⟩
  | 9 => some ⟨.str, 1, 16, (.string ⟨#[]⟩), none⟩
  | 22 => some ⟨.slice 26, 1, 24, (.slice none 0 0), none⟩
  | 24 => some ⟨.struct [(4, 0), (9, 1), (9, 2)], 3, 40, (.agg #[(.bool false), (.string ⟨#[]⟩), (.string ⟨#[]⟩)]), some [.bool, .str, .str]⟩
  | 26 => some ⟨.struct [(24, 0), (24, 3)], 6, 80, (.agg #[(.bool false), (.string ⟨#[]⟩), (.string ⟨#[]⟩), (.bool false), (.string ⟨#[]⟩), (.string ⟨#[]⟩)]), some [.bool, .str, .str, .bool, .str, .str]⟩
  | 29 => some ⟨.int .i64, 1, 8, (.int .i64 0), none⟩
  | 52 => some ⟨.slice 90, 1, 24, (.slice none 0 0), none⟩
  | 90 => some ⟨.struct [(24, 0), (24, 3)], 6, 80, (.agg #[(.bool false), (.string ⟨#[]⟩), (.string ⟨#[]⟩), (.bool false), (.string ⟨#[]⟩), (.string ⟨#[]⟩)]), some [.bool, .str, .str, .bool, .str, .str]⟩
  | 106 => some ⟨.struct [(4, 0), (9, 1)], 2, 24, (.agg #[(.bool false), (.string ⟨#[]⟩)]), some [.bool, .str]⟩
  | 108 => some ⟨.struct [(106, 0), (106, 2)], 4, 48, (.agg #[(.bool false), (.string ⟨#[]⟩), (.bool false), (.string ⟨#[]⟩)]), some [.bool, .str, .bool, .str]⟩
  | 114 => some ⟨.int .u64, 1, 8, (.int .u64 0), none⟩
  | 125 => some ⟨.slice 24, 1, 24, (.slice none 0 0), none⟩
  | 144 => some ⟨.slice 147, 1, 24, (.slice none 0 0), none⟩
  | 147 => some ⟨.struct [(90, 0), (90, 6)], 12, 160, (.agg #[(.bool false), (.string ⟨#[]⟩), (.string ⟨#[]⟩), (.bool false), (.string ⟨#[]⟩), (.string ⟨#[]⟩), (.bool false), (.string ⟨#[]⟩), (.string ⟨#[]⟩), (.bool false), (.string ⟨#[]⟩), (.string ⟨#[]⟩)]), some [.bool, .str, .str, .bool, .str, .str, .bool, .str, .str, .bool, .str, .str]⟩
  | 151 => some ⟨.slice 52, 1, 24, (.slice none 0 0), none⟩
  | 159 => some ⟨.int .u64, 1, 8, (.int .u64 0), none⟩
  | 161 => some ⟨.int .u32, 1, 4, (.int .u32 0), none⟩
  | 163 => some ⟨.slice 161, 1, 24, (.slice none 0 0), none⟩
  | 169 => some ⟨.arr 3 3, 3, 24, (.agg #[(.int .i64 0), (.int .i64 0), (.int .i64 0)]), none⟩
  | 171 => some ⟨.int .i64, 1, 8, (.int .i64 0), none⟩
  | 203 => some ⟨.slice 5, 1, 24, (.slice none 0 0), none⟩
  | 204 => some ⟨.arr 8 5, 8, 8, (.agg #[(.int .u8 0), (.int .u8 0), (.int .u8 0), (.int .u8 0), (.int .u8 0), (.int .u8 0), (.int .u8 0), (.int .u8 0)]), none⟩
  | 209 => some ⟨.int .u64, 1, 8, (.int .u64 0), none⟩
  | 228 => some ⟨.arr 8 9, 8, 128, (.agg #[(.string ⟨#[]⟩), (.string ⟨#[]⟩), (.string ⟨#[]⟩), (.string ⟨#[]⟩), (.string ⟨#[]⟩), (.string ⟨#[]⟩), (.string ⟨#[]⟩), (.string ⟨#[]⟩)]), none⟩
  | 229 => some ⟨.slice 3, 1, 24, (.slice none 0 0), none⟩
  | _ => none
theorem mixed : Tryz.prog.follows .mixedOrders = true := by kernel_rfl
theorem deep : 8 ≤ Tryz.prog.depth := by decide +kernel
theorem tok3 : TOKat Tryz.prog 3 ⟨.int .i64, 1, 8, (.int .i64 0), none⟩ := TOKat.make (by kernel_rfl) Tryz.underlying3 (by kernel_rfl) (by kernel_rfl) (fun ks h => by cases h) deep
theorem tok4 : TOKat Tryz.prog 4 ⟨.bool, 1, 1, (.bool false), none⟩ := TOKat.make (by kernel_rfl) Tryz.underlying4 (by kernel_rfl) (by kernel_rfl) (fun ks h => by cases h) deep
theorem tok5 : TOKat Tryz.prog 5 ⟨.int .u8, 1, 1, (.int .u8 0), none⟩ := TOKat.make (by kernel_rfl) Tryz.underlying5 (by kernel_rfl) (by kernel_rfl) (fun ks h => by cases h) deep
theorem tok9 : TOKat Tryz.prog 9 ⟨.str, 1, 16, (.string ⟨#[]⟩), none⟩ := TOKat.make (by kernel_rfl) Tryz.underlying9 (by kernel_rfl) (by kernel_rfl) (fun ks h => by cases h) deep
theorem tok22 : TOKat Tryz.prog 22 ⟨.slice 26, 1, 24, (.slice none 0 0), none⟩ := TOKat.make (by kernel_rfl) Tryz.underlying22 (by kernel_rfl) (by kernel_rfl) (fun ks h => by cases h) deep
theorem tok24 : TOKat Tryz.prog 24 ⟨.struct [(4, 0), (9, 1), (9, 2)], 3, 40, (.agg #[(.bool false), (.string ⟨#[]⟩), (.string ⟨#[]⟩)]), some [.bool, .str, .str]⟩ := TOKat.make (by kernel_rfl) Tryz.underlying24 (by kernel_rfl) (by kernel_rfl) (fun ks h => by cases h; exact ⟨by kernel_rfl, by kernel_rfl⟩) deep
theorem tok26 : TOKat Tryz.prog 26 ⟨.struct [(24, 0), (24, 3)], 6, 80, (.agg #[(.bool false), (.string ⟨#[]⟩), (.string ⟨#[]⟩), (.bool false), (.string ⟨#[]⟩), (.string ⟨#[]⟩)]), some [.bool, .str, .str, .bool, .str, .str]⟩ := TOKat.make (by kernel_rfl) Tryz.underlying26 (by kernel_rfl) (by kernel_rfl) (fun ks h => by cases h; exact ⟨by kernel_rfl, by kernel_rfl⟩) deep
theorem tok29 : TOKat Tryz.prog 29 ⟨.int .i64, 1, 8, (.int .i64 0), none⟩ := TOKat.make (by kernel_rfl) Tryz.underlying29 (by kernel_rfl) (by kernel_rfl) (fun ks h => by cases h) deep
theorem tok52 : TOKat Tryz.prog 52 ⟨.slice 90, 1, 24, (.slice none 0 0), none⟩ := TOKat.make (by kernel_rfl) Tryz.underlying52 (by kernel_rfl) (by kernel_rfl) (fun ks h => by cases h) deep
theorem tok90 : TOKat Tryz.prog 90 ⟨.struct [(24, 0), (24, 3)], 6, 80, (.agg #[(.bool false), (.string ⟨#[]⟩), (.string ⟨#[]⟩), (.bool false), (.string ⟨#[]⟩), (.string ⟨#[]⟩)]), some [.bool, .str, .str, .bool, .str, .str]⟩ := TOKat.make (by kernel_rfl) Tryz.underlying90 (by kernel_rfl) (by kernel_rfl) (fun ks h => by cases h; exact ⟨by kernel_rfl, by kernel_rfl⟩) deep
theorem tok106 : TOKat Tryz.prog 106 ⟨.struct [(4, 0), (9, 1)], 2, 24, (.agg #[(.bool false), (.string ⟨#[]⟩)]), some [.bool, .str]⟩ := TOKat.make (by kernel_rfl) Tryz.underlying106 (by kernel_rfl) (by kernel_rfl) (fun ks h => by cases h; exact ⟨by kernel_rfl, by kernel_rfl⟩) deep
theorem tok108 : TOKat Tryz.prog 108 ⟨.struct [(106, 0), (106, 2)], 4, 48, (.agg #[(.bool false), (.string ⟨#[]⟩), (.bool false), (.string ⟨#[]⟩)]), some [.bool, .str, .bool, .str]⟩ := TOKat.make (by kernel_rfl) Tryz.underlying108 (by kernel_rfl) (by kernel_rfl) (fun ks h => by cases h; exact ⟨by kernel_rfl, by kernel_rfl⟩) deep
theorem tok114 : TOKat Tryz.prog 114 ⟨.int .u64, 1, 8, (.int .u64 0), none⟩ := TOKat.make (by kernel_rfl) Tryz.underlying114 (by kernel_rfl) (by kernel_rfl) (fun ks h => by cases h) deep
theorem tok125 : TOKat Tryz.prog 125 ⟨.slice 24, 1, 24, (.slice none 0 0), none⟩ := TOKat.make (by kernel_rfl) Tryz.underlying125 (by kernel_rfl) (by kernel_rfl) (fun ks h => by cases h) deep
theorem tok144 : TOKat Tryz.prog 144 ⟨.slice 147, 1, 24, (.slice none 0 0), none⟩ := TOKat.make (by kernel_rfl) Tryz.underlying144 (by kernel_rfl) (by kernel_rfl) (fun ks h => by cases h) deep
theorem tok147 : TOKat Tryz.prog 147 ⟨.struct [(90, 0), (90, 6)], 12, 160, (.agg #[(.bool false), (.string ⟨#[]⟩), (.string ⟨#[]⟩), (.bool false), (.string ⟨#[]⟩), (.string ⟨#[]⟩), (.bool false), (.string ⟨#[]⟩), (.string ⟨#[]⟩), (.bool false), (.string ⟨#[]⟩), (.string ⟨#[]⟩)]), some [.bool, .str, .str, .bool, .str, .str, .bool, .str, .str, .bool, .str, .str]⟩ := TOKat.make (by kernel_rfl) Tryz.underlying147 (by kernel_rfl) (by kernel_rfl) (fun ks h => by cases h; exact ⟨by kernel_rfl, by kernel_rfl⟩) deep
theorem tok151 : TOKat Tryz.prog 151 ⟨.slice 52, 1, 24, (.slice none 0 0), none⟩ := TOKat.make (by kernel_rfl) Tryz.underlying151 (by kernel_rfl) (by kernel_rfl) (fun ks h => by cases h) deep
theorem tok159 : TOKat Tryz.prog 159 ⟨.int .u64, 1, 8, (.int .u64 0), none⟩ := TOKat.make (by kernel_rfl) Tryz.underlying159 (by kernel_rfl) (by kernel_rfl) (fun ks h => by cases h) deep
theorem tok161 : TOKat Tryz.prog 161 ⟨.int .u32, 1, 4, (.int .u32 0), none⟩ := TOKat.make (by kernel_rfl) Tryz.underlying161 (by kernel_rfl) (by kernel_rfl) (fun ks h => by cases h) deep
theorem tok163 : TOKat Tryz.prog 163 ⟨.slice 161, 1, 24, (.slice none 0 0), none⟩ := TOKat.make (by kernel_rfl) Tryz.underlying163 (by kernel_rfl) (by kernel_rfl) (fun ks h => by cases h) deep
theorem tok169 : TOKat Tryz.prog 169 ⟨.arr 3 3, 3, 24, (.agg #[(.int .i64 0), (.int .i64 0), (.int .i64 0)]), none⟩ := TOKat.make (by kernel_rfl) Tryz.underlying169 (by kernel_rfl) (by kernel_rfl) (fun ks h => by cases h) deep
theorem tok171 : TOKat Tryz.prog 171 ⟨.int .i64, 1, 8, (.int .i64 0), none⟩ := TOKat.make (by kernel_rfl) Tryz.underlying171 (by kernel_rfl) (by kernel_rfl) (fun ks h => by cases h) deep
theorem tok203 : TOKat Tryz.prog 203 ⟨.slice 5, 1, 24, (.slice none 0 0), none⟩ := TOKat.make (by kernel_rfl) Tryz.underlying203 (by kernel_rfl) (by kernel_rfl) (fun ks h => by cases h) deep
theorem tok204 : TOKat Tryz.prog 204 ⟨.arr 8 5, 8, 8, (.agg #[(.int .u8 0), (.int .u8 0), (.int .u8 0), (.int .u8 0), (.int .u8 0), (.int .u8 0), (.int .u8 0), (.int .u8 0)]), none⟩ := TOKat.make (by kernel_rfl) Tryz.underlying204 (by kernel_rfl) (by kernel_rfl) (fun ks h => by cases h) deep
theorem tok209 : TOKat Tryz.prog 209 ⟨.int .u64, 1, 8, (.int .u64 0), none⟩ := TOKat.make (by kernel_rfl) Tryz.underlying209 (by kernel_rfl) (by kernel_rfl) (fun ks h => by cases h) deep
theorem tok228 : TOKat Tryz.prog 228 ⟨.arr 8 9, 8, 128, (.agg #[(.string ⟨#[]⟩), (.string ⟨#[]⟩), (.string ⟨#[]⟩), (.string ⟨#[]⟩), (.string ⟨#[]⟩), (.string ⟨#[]⟩), (.string ⟨#[]⟩), (.string ⟨#[]⟩)]), none⟩ := TOKat.make (by kernel_rfl) Tryz.underlying228 (by kernel_rfl) (by kernel_rfl) (fun ks h => by cases h) deep
theorem tok229 : TOKat Tryz.prog 229 ⟨.slice 3, 1, 24, (.slice none 0 0), none⟩ := TOKat.make (by kernel_rfl) Tryz.underlying229 (by kernel_rfl) (by kernel_rfl) (fun ks h => by cases h) deep
theorem tt3 : tt 3 = some ⟨.int .i64, 1, 8, (.int .i64 0), none⟩ := rfl
theorem tt4 : tt 4 = some ⟨.bool, 1, 1, (.bool false), none⟩ := rfl
theorem tt5 : tt 5 = some ⟨.int .u8, 1, 1, (.int .u8 0), none⟩ := rfl
theorem tt9 : tt 9 = some ⟨.str, 1, 16, (.string ⟨#[]⟩), none⟩ := rfl
theorem tt22 : tt 22 = some ⟨.slice 26, 1, 24, (.slice none 0 0), none⟩ := rfl
theorem tt24 : tt 24 = some ⟨.struct [(4, 0), (9, 1), (9, 2)], 3, 40, (.agg #[(.bool false), (.string ⟨#[]⟩), (.string ⟨#[]⟩)]), some [.bool, .str, .str]⟩ := rfl
theorem tt26 : tt 26 = some ⟨.struct [(24, 0), (24, 3)], 6, 80, (.agg #[(.bool false), (.string ⟨#[]⟩), (.string ⟨#[]⟩), (.bool false), (.string ⟨#[]⟩), (.string ⟨#[]⟩)]), some [.bool, .str, .str, .bool, .str, .str]⟩ := rfl
theorem tt29 : tt 29 = some ⟨.int .i64, 1, 8, (.int .i64 0), none⟩ := rfl
theorem tt52 : tt 52 = some ⟨.slice 90, 1, 24, (.slice none 0 0), none⟩ := rfl
theorem tt90 : tt 90 = some ⟨.struct [(24, 0), (24, 3)], 6, 80, (.agg #[(.bool false), (.string ⟨#[]⟩), (.string ⟨#[]⟩), (.bool false), (.string ⟨#[]⟩), (.string ⟨#[]⟩)]), some [.bool, .str, .str, .bool, .str, .str]⟩ := rfl
theorem tt106 : tt 106 = some ⟨.struct [(4, 0), (9, 1)], 2, 24, (.agg #[(.bool false), (.string ⟨#[]⟩)]), some [.bool, .str]⟩ := rfl
theorem tt108 : tt 108 = some ⟨.struct [(106, 0), (106, 2)], 4, 48, (.agg #[(.bool false), (.string ⟨#[]⟩), (.bool false), (.string ⟨#[]⟩)]), some [.bool, .str, .bool, .str]⟩ := rfl
theorem tt114 : tt 114 = some ⟨.int .u64, 1, 8, (.int .u64 0), none⟩ := rfl
theorem tt125 : tt 125 = some ⟨.slice 24, 1, 24, (.slice none 0 0), none⟩ := rfl
theorem tt144 : tt 144 = some ⟨.slice 147, 1, 24, (.slice none 0 0), none⟩ := rfl
theorem tt147 : tt 147 = some ⟨.struct [(90, 0), (90, 6)], 12, 160, (.agg #[(.bool false), (.string ⟨#[]⟩), (.string ⟨#[]⟩), (.bool false), (.string ⟨#[]⟩), (.string ⟨#[]⟩), (.bool false), (.string ⟨#[]⟩), (.string ⟨#[]⟩), (.bool false), (.string ⟨#[]⟩), (.string ⟨#[]⟩)]), some [.bool, .str, .str, .bool, .str, .str, .bool, .str, .str, .bool, .str, .str]⟩ := rfl
theorem tt151 : tt 151 = some ⟨.slice 52, 1, 24, (.slice none 0 0), none⟩ := rfl
theorem tt159 : tt 159 = some ⟨.int .u64, 1, 8, (.int .u64 0), none⟩ := rfl
theorem tt161 : tt 161 = some ⟨.int .u32, 1, 4, (.int .u32 0), none⟩ := rfl
theorem tt163 : tt 163 = some ⟨.slice 161, 1, 24, (.slice none 0 0), none⟩ := rfl
theorem tt169 : tt 169 = some ⟨.arr 3 3, 3, 24, (.agg #[(.int .i64 0), (.int .i64 0), (.int .i64 0)]), none⟩ := rfl
theorem tt171 : tt 171 = some ⟨.int .i64, 1, 8, (.int .i64 0), none⟩ := rfl
theorem tt203 : tt 203 = some ⟨.slice 5, 1, 24, (.slice none 0 0), none⟩ := rfl
theorem tt204 : tt 204 = some ⟨.arr 8 5, 8, 8, (.agg #[(.int .u8 0), (.int .u8 0), (.int .u8 0), (.int .u8 0), (.int .u8 0), (.int .u8 0), (.int .u8 0), (.int .u8 0)]), none⟩ := rfl
theorem tt209 : tt 209 = some ⟨.int .u64, 1, 8, (.int .u64 0), none⟩ := rfl
theorem tt228 : tt 228 = some ⟨.arr 8 9, 8, 128, (.agg #[(.string ⟨#[]⟩), (.string ⟨#[]⟩), (.string ⟨#[]⟩), (.string ⟨#[]⟩), (.string ⟨#[]⟩), (.string ⟨#[]⟩), (.string ⟨#[]⟩), (.string ⟨#[]⟩)]), none⟩ := rfl
theorem tt229 : tt 229 = some ⟨.slice 3, 1, 24, (.slice none 0 0), none⟩ := rfl
theorem tok : TOK Tryz.prog tt := by
  intro t i h
  unfold tt at h
  split at h <;> first | cases h | skip
  · exact tok3
  · exact tok4
  · exact tok5
  · exact tok9
  · exact tok22
  · exact tok24
  · exact tok26
  · exact tok29
  · exact tok52
  · exact tok90
  · exact tok106
  · exact tok108
  · exact tok114
  · exact tok125
  · exact tok144
  · exact tok147
  · exact tok151
  · exact tok159
  · exact tok161
  · exact tok163
  · exact tok169
  · exact tok171
  · exact tok203
  · exact tok204
  · exact tok209
  · exact tok228
  · exact tok229
theorem res2 : Tryz.f2.results.toList = [] := rfl
theorem res3 : Tryz.f3.results.toList = [.tmp 6] := rfl
theorem res4 : Tryz.f4.results.toList = [.tmp 4] := rfl
theorem res5 : Tryz.f5.results.toList = [.tmp 4] := rfl
theorem res6 : Tryz.f6.results.toList = [.tmp 2] := rfl
theorem res7 : Tryz.f7.results.toList = [.tmp 4] := rfl
theorem res8 : Tryz.f8.results.toList = [.tmp 6] := rfl
theorem res9 : Tryz.f9.results.toList = [.tmp 8] := rfl
theorem res10 : Tryz.f10.results.toList = [.tmp 4] := rfl
theorem res11 : Tryz.f11.results.toList = [.tmp 0] := rfl
theorem res12 : Tryz.f12.results.toList = [.tmp 2, .tmp 3] := rfl
theorem res13 : Tryz.f13.results.toList = [.tmp 2, .tmp 3] := rfl
theorem res14 : Tryz.f14.results.toList = [.tmp 4, .tmp 5, .tmp 6] := rfl
theorem res15 : Tryz.f15.results.toList = [.tmp 4, .tmp 5, .tmp 6] := rfl
theorem res16 : Tryz.f16.results.toList = [.tmp 4] := rfl
theorem res17 : Tryz.f17.results.toList = [.tmp 2] := rfl
theorem res18 : Tryz.f18.results.toList = [.tmp 2] := rfl
theorem res19 : Tryz.f19.results.toList = [.cell 4 26, .tmp 5] := rfl
theorem res20 : Tryz.f20.results.toList = [.cell 6 26] := rfl
theorem res21 : Tryz.f21.results.toList = [.tmp 4] := rfl
theorem res22 : Tryz.f22.results.toList = [.tmp 3] := rfl
theorem res23 : Tryz.f23.results.toList = [.tmp 4] := rfl
theorem res24 : Tryz.f24.results.toList = [.tmp 4] := rfl
theorem res25 : Tryz.f25.results.toList = [.tmp 6, .tmp 7] := rfl
theorem res26 : Tryz.f26.results.toList = [.tmp 2, .tmp 3] := rfl
theorem res27 : Tryz.f27.results.toList = [.tmp 4, .tmp 5] := rfl
theorem res28 : Tryz.f28.results.toList = [.tmp 4, .tmp 5] := rfl
theorem res29 : Tryz.f29.results.toList = [.tmp 2, .tmp 3] := rfl
theorem res30 : Tryz.f30.results.toList = [.tmp 6] := rfl
theorem res31 : Tryz.f31.results.toList = [.tmp 2] := rfl
theorem res32 : Tryz.f32.results.toList = [.tmp 2] := rfl
theorem res33 : Tryz.f33.results.toList = [.tmp 2] := rfl
theorem res34 : Tryz.f34.results.toList = [.tmp 2] := rfl
theorem res35 : Tryz.f35.results.toList = [.tmp 0] := rfl
theorem res36 : Tryz.f36.results.toList = [.tmp 6, .tmp 7] := rfl
theorem res37 : Tryz.f37.results.toList = [.tmp 2, .tmp 3] := rfl
theorem res38 : Tryz.f38.results.toList = [.tmp 4] := rfl
theorem res39 : Tryz.f39.results.toList = [.cell 6 24, .tmp 7] := rfl
theorem res40 : Tryz.f40.results.toList = [.tmp 4] := rfl
theorem res41 : Tryz.f41.results.toList = [.tmp 2] := rfl
theorem res42 : Tryz.f42.results.toList = [.tmp 2] := rfl
theorem res43 : Tryz.f43.results.toList = [.cell 2 26] := rfl
theorem res44 : Tryz.f44.results.toList = [.cell 2 24] := rfl
theorem res45 : Tryz.f45.results.toList = [.cell 4 24, .tmp 5] := rfl
theorem res46 : Tryz.f46.results.toList = [.cell 2 26] := rfl
theorem res47 : Tryz.f47.results.toList = [.cell 0 26] := rfl
theorem res48 : Tryz.f48.results.toList = [.cell 2 24] := rfl
theorem res49 : Tryz.f49.results.toList = [.cell 4 24, .tmp 5] := rfl
theorem res50 : Tryz.f50.results.toList = [.cell 4 26, .tmp 5] := rfl
theorem res51 : Tryz.f51.results.toList = [.cell 2 26] := rfl
theorem res52 : Tryz.f52.results.toList = [.tmp 4] := rfl
theorem res53 : Tryz.f53.results.toList = [.tmp 6, .tmp 7] := rfl
theorem res54 : Tryz.f54.results.toList = [.tmp 4] := rfl
theorem res55 : Tryz.f55.results.toList = [.tmp 2] := rfl
theorem res56 : Tryz.f56.results.toList = [.tmp 4, .tmp 5] := rfl
theorem res57 : Tryz.f57.results.toList = [.tmp 4] := rfl
theorem res58 : Tryz.f58.results.toList = [.tmp 2] := rfl
theorem res59 : Tryz.f59.results.toList = [.cell 4 26] := rfl
theorem res60 : Tryz.f60.results.toList = [.tmp 4] := rfl
theorem res61 : Tryz.f61.results.toList = [.tmp 4] := rfl
theorem res62 : Tryz.f62.results.toList = [.tmp 2] := rfl
theorem res63 : Tryz.f63.results.toList = [.tmp 4] := rfl
theorem res64 : Tryz.f64.results.toList = [.cell 2 26] := rfl
theorem res65 : Tryz.f65.results.toList = [.tmp 2] := rfl
theorem res66 : Tryz.f66.results.toList = [.cell 4 26, .tmp 5] := rfl
theorem res67 : Tryz.f67.results.toList = [] := rfl
theorem res68 : Tryz.f68.results.toList = [.tmp 6] := rfl
theorem res69 : Tryz.f69.results.toList = [.tmp 4] := rfl
theorem res70 : Tryz.f70.results.toList = [.cell 4 26, .tmp 5] := rfl
theorem res71 : Tryz.f71.results.toList = [.tmp 2] := rfl
theorem res72 : Tryz.f72.results.toList = [.tmp 2] := rfl
theorem res73 : Tryz.f73.results.toList = [.tmp 2] := rfl
theorem res74 : Tryz.f74.results.toList = [.cell 2 24] := rfl
theorem res75 : Tryz.f75.results.toList = [.cell 4 24] := rfl
theorem res76 : Tryz.f76.results.toList = [.cell 2 24] := rfl
theorem res77 : Tryz.f77.results.toList = [.cell 4 24] := rfl
theorem res78 : Tryz.f78.results.toList = [.cell 4 90] := rfl
theorem res79 : Tryz.f79.results.toList = [.tmp 4] := rfl
theorem res80 : Tryz.f80.results.toList = [.tmp 6] := rfl
theorem res81 : Tryz.f81.results.toList = [.cell 2 29] := rfl
theorem res82 : Tryz.f82.results.toList = [.tmp 6, .tmp 7] := rfl
theorem res83 : Tryz.f83.results.toList = [.tmp 2] := rfl
theorem res84 : Tryz.f84.results.toList = [.tmp 4] := rfl
theorem res85 : Tryz.f85.results.toList = [.tmp 6] := rfl
theorem res86 : Tryz.f86.results.toList = [.tmp 6] := rfl
theorem res87 : Tryz.f87.results.toList = [.tmp 2] := rfl
theorem res88 : Tryz.f88.results.toList = [.tmp 2] := rfl
theorem res89 : Tryz.f89.results.toList = [.cell 2 24] := rfl
theorem res90 : Tryz.f90.results.toList = [] := rfl
theorem res91 : Tryz.f91.results.toList = [.tmp 2] := rfl
theorem res92 : Tryz.f92.results.toList = [.tmp 2] := rfl
theorem res93 : Tryz.f93.results.toList = [.cell 4 90, .tmp 5] := rfl
theorem res94 : Tryz.f94.results.toList = [.tmp 2, .tmp 3] := rfl
theorem res95 : Tryz.f95.results.toList = [.cell 4 24] := rfl
theorem res96 : Tryz.f96.results.toList = [.cell 2 108] := rfl
theorem res97 : Tryz.f97.results.toList = [.cell 2 24] := rfl
theorem res98 : Tryz.f98.results.toList = [.cell 4 24, .tmp 5] := rfl
theorem res99 : Tryz.f99.results.toList = [.cell 2 106] := rfl
theorem res100 : Tryz.f100.results.toList = [.cell 4 24] := rfl
theorem res101 : Tryz.f101.results.toList = [.cell 4 24] := rfl
theorem res102 : Tryz.f102.results.toList = [.cell 2 106] := rfl
theorem res103 : Tryz.f103.results.toList = [.cell 4 24, .tmp 5] := rfl
theorem res104 : Tryz.f104.results.toList = [.cell 4 26] := rfl
theorem res105 : Tryz.f105.results.toList = [.cell 4 24] := rfl
theorem res106 : Tryz.f106.results.toList = [.cell 4 24] := rfl
theorem res107 : Tryz.f107.results.toList = [.cell 4 24] := rfl
theorem res108 : Tryz.f108.results.toList = [.cell 4 24] := rfl
theorem res109 : Tryz.f109.results.toList = [.tmp 4, .tmp 5] := rfl
theorem res110 : Tryz.f110.results.toList = [.tmp 2] := rfl
theorem res111 : Tryz.f111.results.toList = [.tmp 4] := rfl
theorem res112 : Tryz.f112.results.toList = [.tmp 4, .tmp 5] := rfl
theorem res113 : Tryz.f113.results.toList = [.cell 4 24] := rfl
theorem res114 : Tryz.f114.results.toList = [.tmp 2] := rfl
theorem res115 : Tryz.f115.results.toList = [] := rfl
theorem res116 : Tryz.f116.results.toList = [.cell 2 24, .tmp 3] := rfl
theorem res117 : Tryz.f117.results.toList = [.cell 4 24, .tmp 5] := rfl
theorem res118 : Tryz.f118.results.toList = [] := rfl
theorem res119 : Tryz.f119.results.toList = [.tmp 2] := rfl
theorem res121 : Tryz.f121.results.toList = [] := rfl
theorem res122 : Tryz.f122.results.toList = [.cell 2 26] := rfl
theorem res123 : Tryz.f123.results.toList = [.tmp 2] := rfl
theorem res124 : Tryz.f124.results.toList = [.cell 4 24, .tmp 5] := rfl
theorem res125 : Tryz.f125.results.toList = [.tmp 2] := rfl
theorem res126 : Tryz.f126.results.toList = [.cell 4 24] := rfl
theorem res127 : Tryz.f127.results.toList = [.cell 8 24] := rfl
theorem res128 : Tryz.f128.results.toList = [.cell 8 24] := rfl
theorem res129 : Tryz.f129.results.toList = [.cell 4 24] := rfl
theorem res130 : Tryz.f130.results.toList = [.cell 4 24] := rfl
theorem res131 : Tryz.f131.results.toList = [.cell 4 106] := rfl
theorem res132 : Tryz.f132.results.toList = [.tmp 4] := rfl
theorem res133 : Tryz.f133.results.toList = [.tmp 2] := rfl
theorem res134 : Tryz.f134.results.toList = [.tmp 4] := rfl
theorem res135 : Tryz.f135.results.toList = [.tmp 3] := rfl
theorem res136 : Tryz.f136.results.toList = [.tmp 4] := rfl
theorem res137 : Tryz.f137.results.toList = [.tmp 2] := rfl
theorem res138 : Tryz.f138.results.toList = [.tmp 4] := rfl
theorem res139 : Tryz.f139.results.toList = [.tmp 2] := rfl
theorem res140 : Tryz.f140.results.toList = [.tmp 6] := rfl
theorem res141 : Tryz.f141.results.toList = [.tmp 2] := rfl
theorem res142 : Tryz.f142.results.toList = [.tmp 2] := rfl
theorem res143 : Tryz.f143.results.toList = [.tmp 2] := rfl
theorem res144 : Tryz.f144.results.toList = [.tmp 6] := rfl
theorem res145 : Tryz.f145.results.toList = [.cell 4 24] := rfl
theorem res146 : Tryz.f146.results.toList = [.cell 4 90] := rfl
theorem res147 : Tryz.f147.results.toList = [.tmp 2] := rfl
theorem res148 : Tryz.f148.results.toList = [.cell 4 147, .tmp 5, .tmp 6] := rfl
theorem res149 : Tryz.f149.results.toList = [.tmp 4] := rfl
theorem res150 : Tryz.f150.results.toList = [.tmp 2] := rfl
theorem res151 : Tryz.f151.results.toList = [.cell 4 24, .tmp 5] := rfl
theorem res152 : Tryz.f152.results.toList = [.tmp 4] := rfl
theorem res153 : Tryz.f153.results.toList = [.cell 4 90] := rfl
theorem res154 : Tryz.f154.results.toList = [.tmp 2] := rfl
theorem res155 : Tryz.f155.results.toList = [.tmp 2, .tmp 3] := rfl
theorem res156 : Tryz.f156.results.toList = [.cell 4 106] := rfl
theorem res157 : Tryz.f157.results.toList = [.tmp 4] := rfl
theorem res158 : Tryz.f158.results.toList = [.cell 4 106] := rfl
theorem res159 : Tryz.f159.results.toList = [.cell 4 106, .cell 5 106, .tmp 6] := rfl
theorem res160 : Tryz.f160.results.toList = [.cell 2 106] := rfl
theorem res161 : Tryz.f161.results.toList = [.cell 4 106] := rfl
theorem res162 : Tryz.f162.results.toList = [.cell 4 106] := rfl
theorem res163 : Tryz.f163.results.toList = [.cell 2 106] := rfl
theorem res164 : Tryz.f164.results.toList = [.cell 4 106] := rfl
theorem res165 : Tryz.f165.results.toList = [.cell 4 106, .cell 5 106, .tmp 6] := rfl
theorem res166 : Tryz.f166.results.toList = [.tmp 2] := rfl
theorem res167 : Tryz.f167.results.toList = [.tmp 4] := rfl
theorem res168 : Tryz.f168.results.toList = [.tmp 2, .tmp 3, .tmp 4] := rfl
theorem res169 : Tryz.f169.results.toList = [.cell 4 24] := rfl
theorem res170 : Tryz.f170.results.toList = [.cell 2 106, .cell 3 106] := rfl
theorem res171 : Tryz.f171.results.toList = [.cell 4 106] := rfl
theorem res172 : Tryz.f172.results.toList = [.cell 4 24, .tmp 5] := rfl
theorem res173 : Tryz.f173.results.toList = [.cell 2 24] := rfl
theorem res174 : Tryz.f174.results.toList = [.tmp 4] := rfl
theorem res175 : Tryz.f175.results.toList = [.tmp 4] := rfl
theorem res176 : Tryz.f176.results.toList = [.cell 4 24] := rfl
theorem res177 : Tryz.f177.results.toList = [] := rfl
theorem res178 : Tryz.f178.results.toList = [] := rfl
theorem res179 : Tryz.f179.results.toList = [] := rfl
theorem res180 : Tryz.f180.results.toList = [.tmp 8, .tmp 9] := rfl
theorem res181 : Tryz.f181.results.toList = [] := rfl
theorem res182 : Tryz.f182.results.toList = [.tmp 8] := rfl
theorem res183 : Tryz.f183.results.toList = [.tmp 10] := rfl
theorem res184 : Tryz.f184.results.toList = [.tmp 10, .tmp 11] := rfl
theorem res185 : Tryz.f185.results.toList = [.tmp 2] := rfl
theorem res186 : Tryz.f186.results.toList = [.tmp 2] := rfl
theorem res187 : Tryz.f187.results.toList = [] := rfl
theorem res188 : Tryz.f188.results.toList = [.cell 2 24] := rfl
theorem res189 : Tryz.f189.results.toList = [.tmp 2] := rfl
theorem res190 : Tryz.f190.results.toList = [.cell 4 24] := rfl
theorem res191 : Tryz.f191.results.toList = [.cell 8 24] := rfl
theorem res192 : Tryz.f192.results.toList = [.cell 4 24] := rfl
theorem res193 : Tryz.f193.results.toList = [.cell 4 106] := rfl
theorem res194 : Tryz.f194.results.toList = [.tmp 2, .tmp 3, .tmp 4] := rfl
theorem res195 : Tryz.f195.results.toList = [.tmp 2] := rfl
theorem res196 : Tryz.f196.results.toList = [.tmp 2] := rfl
theorem res197 : Tryz.f197.results.toList = [.tmp 4] := rfl
theorem res198 : Tryz.f198.results.toList = [.cell 2 26, .tmp 3] := rfl
theorem res199 : Tryz.f199.results.toList = [.tmp 2] := rfl
theorem res200 : Tryz.f200.results.toList = [.tmp 4] := rfl
theorem res201 : Tryz.f201.results.toList = [] := rfl
theorem res202 : Tryz.f202.results.toList = [.tmp 4] := rfl
theorem res203 : Tryz.f203.results.toList = [] := rfl
theorem res204 : Tryz.f204.results.toList = [.cell 6 90, .tmp 7] := rfl
theorem res205 : Tryz.f205.results.toList = [.cell 6 90] := rfl
theorem res206 : Tryz.f206.results.toList = [.tmp 4] := rfl
theorem res207 : Tryz.f207.results.toList = [.cell 4 147, .tmp 5] := rfl
theorem res208 : Tryz.f208.results.toList = [.tmp 4] := rfl
theorem res209 : Tryz.f209.results.toList = [] := rfl
theorem res210 : Tryz.f210.results.toList = [.tmp 2] := rfl
theorem res211 : Tryz.f211.results.toList = [.tmp 2] := rfl
theorem res212 : Tryz.f212.results.toList = [.tmp 2] := rfl
theorem res213 : Tryz.f213.results.toList = [.tmp 2] := rfl
theorem res214 : Tryz.f214.results.toList = [.tmp 2] := rfl
theorem res215 : Tryz.f215.results.toList = [.tmp 2] := rfl
theorem res216 : Tryz.f216.results.toList = [.tmp 4, .tmp 5] := rfl
theorem res217 : Tryz.f217.results.toList = [.cell 4 106] := rfl
theorem res218 : Tryz.f218.results.toList = [.tmp 2] := rfl
theorem res219 : Tryz.f219.results.toList = [.tmp 2] := rfl
theorem res220 : Tryz.f220.results.toList = [.cell 2 106] := rfl
theorem res221 : Tryz.f221.results.toList = [.tmp 2] := rfl
theorem res222 : Tryz.f222.results.toList = [.tmp 4] := rfl
theorem res223 : Tryz.f223.results.toList = [.tmp 4] := rfl
theorem res224 : Tryz.f224.results.toList = [.tmp 4] := rfl
theorem res225 : Tryz.f225.results.toList = [.tmp 2] := rfl
theorem res226 : Tryz.f226.results.toList = [.tmp 4, .tmp 5] := rfl
theorem res227 : Tryz.f227.results.toList = [.tmp 2] := rfl
theorem res228 : Tryz.f228.results.toList = [.cell 4 106] := rfl
theorem res229 : Tryz.f229.results.toList = [.tmp 2] := rfl
theorem res230 : Tryz.f230.results.toList = [.tmp 2] := rfl
theorem res231 : Tryz.f231.results.toList = [.tmp 4] := rfl
theorem res232 : Tryz.f232.results.toList = [.tmp 8] := rfl
theorem res233 : Tryz.f233.results.toList = [.tmp 8] := rfl
theorem res234 : Tryz.f234.results.toList = [.tmp 4] := rfl
theorem res235 : Tryz.f235.results.toList = [.cell 2 106] := rfl
theorem res236 : Tryz.f236.results.toList = [] := rfl
theorem res237 : Tryz.f237.results.toList = [.tmp 2] := rfl
theorem res238 : Tryz.f238.results.toList = [.tmp 2] := rfl
theorem res239 : Tryz.f239.results.toList = [.tmp 8] := rfl
theorem res240 : Tryz.f240.results.toList = [.tmp 12] := rfl
theorem res241 : Tryz.f241.results.toList = [] := rfl
theorem res242 : Tryz.f242.results.toList = [.cell 2 24] := rfl
theorem res243 : Tryz.f243.results.toList = [.cell 2 106] := rfl
theorem res244 : Tryz.f244.results.toList = [.cell 2 106] := rfl
theorem res245 : Tryz.f245.results.toList = [.tmp 2, .tmp 3] := rfl
theorem res246 : Tryz.f246.results.toList = [.tmp 4] := rfl
theorem res247 : Tryz.f247.results.toList = [.tmp 4] := rfl
theorem res248 : Tryz.f248.results.toList = [.tmp 2] := rfl
theorem res249 : Tryz.f249.results.toList = [.tmp 2] := rfl
theorem res250 : Tryz.f250.results.toList = [.tmp 2] := rfl
theorem res251 : Tryz.f251.results.toList = [.cell 2 90] := rfl
theorem res252 : Tryz.f252.results.toList = [.tmp 2] := rfl
theorem res253 : Tryz.f253.results.toList = [.cell 6 90] := rfl
theorem res254 : Tryz.f254.results.toList = [.cell 2 147] := rfl
theorem res255 : Tryz.f255.results.toList = [.cell 4 90] := rfl
theorem res256 : Tryz.f256.results.toList = [.cell 4 90] := rfl
theorem res257 : Tryz.f257.results.toList = [] := rfl
theorem res258 : Tryz.f258.results.toList = [.tmp 2] := rfl
theorem res259 : Tryz.f259.results.toList = [.tmp 4] := rfl
theorem res260 : Tryz.f260.results.toList = [.tmp 2] := rfl
theorem res261 : Tryz.f261.results.toList = [] := rfl
theorem res262 : Tryz.f262.results.toList = [.tmp 4, .tmp 5] := rfl
theorem res263 : Tryz.f263.results.toList = [.tmp 2] := rfl
theorem res264 : Tryz.f264.results.toList = [.tmp 4] := rfl
theorem res265 : Tryz.f265.results.toList = [.tmp 6] := rfl
theorem res266 : Tryz.f266.results.toList = [.tmp 4] := rfl
theorem res267 : Tryz.f267.results.toList = [.cell 2 106] := rfl
theorem res268 : Tryz.f268.results.toList = [.tmp 10, .tmp 11] := rfl
theorem res269 : Tryz.f269.results.toList = [.tmp 6, .tmp 7] := rfl
theorem res270 : Tryz.f270.results.toList = [.cell 4 90] := rfl
theorem res271 : Tryz.f271.results.toList = [.cell 4 90] := rfl
theorem res272 : Tryz.f272.results.toList = [.cell 2 90] := rfl
theorem res273 : Tryz.f273.results.toList = [] := rfl
theorem res274 : Tryz.f274.results.toList = [] := rfl
theorem res275 : Tryz.f275.results.toList = [.tmp 6, .tmp 7] := rfl
theorem res276 : Tryz.f276.results.toList = [.tmp 6, .tmp 7] := rfl
theorem res277 : Tryz.f277.results.toList = [] := rfl
theorem res278 : Tryz.f278.results.toList = [] := rfl
theorem res279 : Tryz.f279.results.toList = [] := rfl
theorem res280 : Tryz.f280.results.toList = [.tmp 8, .tmp 9] := rfl
theorem res281 : Tryz.f281.results.toList = [] := rfl
theorem res282 : Tryz.f282.results.toList = [.tmp 8] := rfl
theorem res283 : Tryz.f283.results.toList = [.tmp 10] := rfl
theorem res284 : Tryz.f284.results.toList = [.tmp 10, .tmp 11] := rfl
theorem res285 : Tryz.f285.results.toList = [] := rfl
theorem res286 : Tryz.f286.results.toList = [.tmp 8] := rfl
theorem res287 : Tryz.f287.results.toList = [.tmp 12] := rfl
theorem res288 : Tryz.f288.results.toList = [.tmp 10, .tmp 11] := rfl
end Go.Proofs.YthhmkaikopdmjaaGreat
namespace Go.Proofs.YthhmkaikopdmjaaGreat
open Go Go.Fw
attribute [go_sem] wl_nil wl_move wl_assign wl_pick wl_alloc wl_box wl_build wl_buildSlice wl_load wl_store wl_nilCheck wl_binOp wl_unOp wl_convert wl_makeFunc wl_makeSlice wl_slice wl_fieldAddr wl_field wl_indexAddr wl_index wl_extract wl_len wl_append wl_max wl_guard axV_some axW_some axH_some axP_bool axG_tt axG_tf axG_ft axG_ff axG_n undef_eq ev_tmp ev_const ev_func upd_at put_some put_none newPtr_at newPtr_0 mkBlk eszOf aBuild aStore aLoad aFieldAddr rd_app wr_app rd_app0 wr_app0 rd_zero rd_succ wr_zero wr_succ allC_nil allC_cons parts' fillL placesOf sizeT splice cells_bool cells_int cells_string cells_pointer cells_slice cells_func cells_agg cell_bool cell_int cell_string cell_pointer cell_slice cell_func exT_tuple ini_0 ini_s TD.agg List.length_cons List.length_nil List.length_append List.getElem?_cons_zero List.getElem?_cons_succ List.set_cons_zero List.set_cons_succ List.take_succ_cons List.take_zero List.drop_succ_cons List.drop_zero List.take_nil List.drop_nil List.append_assoc List.cons_append List.nil_append List.append_nil List.map_cons List.map_nil List.map_toArray List.size_toArray Option.map_some Option.map_none Option.isSome_some Option.isSome_none if_true if_false List.all_cons List.all_nil Bool.and_true Bool.true_and Bool.and_self and_self true_and and_true or_self or_false false_or not_true_eq_false not_false_eq_true ne_eq Nat.add_zero Nat.zero_add Nat.zero_le Nat.le_refl Bool.false_eq_true Nat.lt_irrefl gt_iff_lt Nat.zero_lt_succ wa_region wa_seq wa_skip wa_block wa_exit wa_ret thn_normal thn_ret thn_exit inb_normal inb_ret inb_exit bin_add bin_sub bin_mul bin_quo bin_rem bin_shl bin_shr bin_and bin_or bin_xor bin_eql bin_neq bin_lss bin_leq bin_gtr bin_geq bin_seql bin_sneq un_not un_neg bs_nil bs_size bs_get bs_extract yieldA List.getElem?_toArray Option.bind_some decide_eq_true_eq decide_eq_false_iff_not Option.some.injEq aIndex ret_eq resL bndL_some resV_one resV_two resV_three cast0 cast1 Bool.not_true Bool.not_false decide_true decide_false Int.toNat_zero Int.toNat_natCast Int.le_refl bits_u8 bits_u32 bits_u64 bits_i64 un_xor_u32 tt3 tt4 tt5 tt9 tt22 tt24 tt26 tt29 tt52 tt90 tt106 tt108 tt114 tt125 tt144 tt147 tt151 tt159 tt161 tt163 tt169 tt171 tt203 tt204 tt209 tt228 tt229
end Go.Proofs.YthhmkaikopdmjaaGreat
