/- What every program answers that is one: chapter 14's first test. -/
import Derived.Test.YtneogampbohfnaaDoorZipGZG
import Derived.Test.YtneogampbohfnaaDoorZipEZG
import Derived.Test.YtneogampbohfnaaDoorZG8
namespace Go.Proofs.YtneogampbohfnaaDoor.ZG
set_option linter.unusedVariables false
set_option linter.unusedSimpArgs false
open Go.RowKit Go.Proofs.YtneogampbohfnaaDoorW.PrintWords Go.Proofs.YtneogampbohfnaaDoorW.PrintLast Go.Proofs.YtneogampbohfnaaDoorW.PrintMore
open Go.Proofs.YtneogampbohfnaaDoor.ZB (S39 z39 k39 rd_T39)
/-- What small tells. -/
def smT (n : ByteArray) (a b : Int) (t : ByteArray) : ByteArray × Bool × List Int × Int × Int × Int × ByteArray × Int × Int := (pn_small.f 300 n a b t).getD (⟨#[]⟩, false, [], 0, 0, 0, ⟨#[]⟩, 0, 0)
def smS (t : ByteArray × Bool × List Int × Int × Int × Int × ByteArray × Int × Int) : S39 := ⟨t.1, t.2.1, t.2.2.1, t.2.2.2.1, t.2.2.2.2.1, t.2.2.2.2.2.1, t.2.2.2.2.2.2.1, t.2.2.2.2.2.2.2.1, t.2.2.2.2.2.2.2.2⟩
theorem small_at (n : ByteArray) (a b : Int) (t : ByteArray) (h : (pn_small.f 300 n a b t).isSome = true) {k : Nat} (hk : 300 ≤ k) : pn_small.f k n a b t = some (smT n a b t) := by
  obtain ⟨x, hx⟩ := Option.isSome_iff_exists.mp h
  have e : smT n a b t = x := by unfold smT; rw [hx]; rfl
  rw [e]
  exact at_rounds (g := fun k => pn_small.f k n a b t) (pn_small.mono n a b t) hk hx
def y1 : List S39 := [smS (smT ⟨#[97]⟩ 0 1 ⟨#[104, 105]⟩)]
def y2 : List S39 := [smS (smT ⟨#[97]⟩ 0 1 ⟨#[104, 105]⟩), smS (smT ⟨#[98]⟩ 2 5 ⟨#[]⟩)]
theorem zok_y1 : zok y1 := ⟨by decide +kernel, by decide +kernel⟩
theorem zok_y2 : zok y2 := ⟨by decide +kernel, by decide +kernel⟩
theorem zok_nil : zok [] := ⟨by decide +kernel, by decide +kernel⟩
theorem some_a : (pn_small.f 300 ⟨#[97]⟩ 0 1 ⟨#[104, 105]⟩).isSome = true := by decide +kernel
theorem some_b : (pn_small.f 300 ⟨#[98]⟩ 2 5 ⟨#[]⟩).isSome = true := by decide +kernel
theorem size_ge (l : List S39) (h : ZipW.mayL l = true) : 22 ≤ (ZipW.zipL l).size := by
  rw [zipL_size h]
  unfold ZipW.sizeL
  have : ∀ i, 22 ≤ ZipW.sizeTo l i := fun i => by
    induction i with
    | zero => exact Nat.le_refl _
    | succ i ih => rw [ZipW.sizeTo]; omega
  exact this _
/-- A text with an archive at its beginning, and more behind, is none. -/
theorem not_more (l : List S39) (hz : zok l) (r : ByteArray) (hr : 0 < r.size) {K : Nat} (hK : 200 ≤ K) : zipget_Get.f K (ZipW.zipL l ++ r) = some ([], 1400) := by
  rcases get_any39 (ZipW.zipL l ++ r) hK with h | ⟨m, hm, hs, h⟩
  · exact h
  · exfalso
    have e := ZipW.zip_pre hm.1 hz.1 hs
    have := congrArg ByteArray.size hs
    rw [ByteArray.size_append, e] at this
    omega
theorem not_short (s : ByteArray) (hs : s.size < 22) {K : Nat} (hK : 200 ≤ K) : zipget_Get.f K s = some ([], 1400) := by
  rcases get_any39 s hK with h | ⟨m, hm, e, h⟩
  · exact h
  · exfalso
    have := size_ge m hm.1
    rw [e] at this
    omega
theorem awake14 {k : Nat} (hk : 300 ≤ k) : pn_awake.f k = some true := by
  have hz := zok_y2
  have hs4 : (ZipW.zipL y2).size ≤ 4096 := by rw [zipL_size hz.1]; exact hz.2
  obtain ⟨b, hb1, hb2⟩ := same_f y2 y2 4 (by decide) (by decide) (may_vec hz.1) (k := k) (by show 4 + 2 + 2 ≤ k; omega)
  unfold pn_awake.f
  rw [small_at _ _ _ _ some_a hk, Option.bind_some, small_at _ _ _ _ some_b hk, Option.bind_some, Option.bind_some]
  have e : ([(⟨(smT ⟨#[97]⟩ 0 1 ⟨#[104, 105]⟩).1, (smT ⟨#[97]⟩ 0 1 ⟨#[104, 105]⟩).2.1, (smT ⟨#[97]⟩ 0 1 ⟨#[104, 105]⟩).2.2.1, (smT ⟨#[97]⟩ 0 1 ⟨#[104, 105]⟩).2.2.2.1, (smT ⟨#[97]⟩ 0 1 ⟨#[104, 105]⟩).2.2.2.2.1, (smT ⟨#[97]⟩ 0 1 ⟨#[104, 105]⟩).2.2.2.2.2.1, (smT ⟨#[97]⟩ 0 1 ⟨#[104, 105]⟩).2.2.2.2.2.2.1, (smT ⟨#[97]⟩ 0 1 ⟨#[104, 105]⟩).2.2.2.2.2.2.2.1, (smT ⟨#[97]⟩ 0 1 ⟨#[104, 105]⟩).2.2.2.2.2.2.2.2⟩ : S39), (⟨(smT ⟨#[98]⟩ 2 5 ⟨#[]⟩).1, (smT ⟨#[98]⟩ 2 5 ⟨#[]⟩).2.1, (smT ⟨#[98]⟩ 2 5 ⟨#[]⟩).2.2.1, (smT ⟨#[98]⟩ 2 5 ⟨#[]⟩).2.2.2.1, (smT ⟨#[98]⟩ 2 5 ⟨#[]⟩).2.2.2.2.1, (smT ⟨#[98]⟩ 2 5 ⟨#[]⟩).2.2.2.2.2.1, (smT ⟨#[98]⟩ 2 5 ⟨#[]⟩).2.2.2.2.2.2.1, (smT ⟨#[98]⟩ 2 5 ⟨#[]⟩).2.2.2.2.2.2.2.1, (smT ⟨#[98]⟩ 2 5 ⟨#[]⟩).2.2.2.2.2.2.2.2⟩ : S39)] : List S39) = y2 := rfl
  rw [e, zput (show y2.length ≤ 9223372036854775807 from by decide), Option.bind_some, zput_yes hz]
  dsimp only
  rw [get_yes y2 hz (by omega), Option.bind_some, if_pos (by omega), not_more y2 hz _ (by decide) (by omega), Option.bind_some, not_short _ (by decide) (by omega), Option.bind_some, znum, Option.bind_some, if_pos rfl]
  dsimp only
  rw [hb1, Option.bind_some, hb2.2 rfl, if_pos rfl]
  rfl
end Go.Proofs.YtneogampbohfnaaDoor.ZG
