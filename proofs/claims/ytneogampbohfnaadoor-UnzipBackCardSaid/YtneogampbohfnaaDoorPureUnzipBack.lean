/- The plain law of portagelaw14.UnzipBack: what is written is read, whole; no beginning of it is an archive. -/
import Derived.Test.YtneogampbohfnaaDoorZipKZG
import Derived.Test.YtneogampbohfnaaDoorZG13
import Derived.Test.YtneogampbohfnaaDoorZG11
import Derived.Test.YtneogampbohfnaaDoorZGOUnzipBack
namespace Go.Proofs.YtneogampbohfnaaDoor.Pure
set_option linter.unusedVariables false
set_option linter.unusedSimpArgs false
open Go.RowKit Go.Proofs.YtneogampbohfnaaDoor.ZG Go.Proofs.YtneogampbohfnaaDoorW.PrintWords Go.Proofs.YtneogampbohfnaaDoorW.PrintLast Go.Proofs.YtneogampbohfnaaDoorW.PrintMore
open Go.Proofs.YtneogampbohfnaaDoor.ZB (S39 z39 k39 rd_T39)
namespace UnzipBack
theorem second (s : ByteArray) {K : Nat} (hK : 200 ≤ K) : portagelaw14_UnzipBack.j0 (K + 1) s = some true := by
  rw [portagelaw14_UnzipBack.j0]
  rcases get_any39 s hK with h | ⟨l, hz, hs, h⟩
  · rw [h, Option.bind_some, znum, Option.bind_some, if_neg (by decide)]
    rfl
  · have hn := (ZipW.small_of hz.1).n
    have hl : l.length ≤ 9223372036854775807 := by omega
    rw [h, Option.bind_some, znum, Option.bind_some, if_pos rfl, zput hl, Option.bind_some, znum, Option.bind_some, zput_yes hz, if_pos rfl, hs]
    simp
/-- The number a cut comes to. -/
theorem cut_in (a : Int) (z : Nat) (hz : z ≤ 4096) : ∃ k : Nat, k ≤ z ∧ IntKind.u64.wrap (wrap64 ((z : Int) + 1)) = ((z + 1 : Nat) : Int) ∧ wrap64 (Int.tmod (IntKind.u64.wrap a) ((z + 1 : Nat) : Int)) = (k : Int) := by
  have h1 : wrap64 ((z : Int) + 1) = ((z + 1 : Nat) : Int) := by unfold wrap64; omega
  have h2 : IntKind.u64.wrap ((z + 1 : Nat) : Int) = ((z + 1 : Nat) : Int) := by
    show ((z + 1 : Nat) : Int) % 18446744073709551616 = _
    omega
  have h3 : ∃ A : Nat, IntKind.u64.wrap a = (A : Int) := by
    refine ⟨(IntKind.u64.wrap a).toNat, ?_⟩
    have : (0 : Int) ≤ IntKind.u64.wrap a := by
      show (0 : Int) ≤ a % 18446744073709551616
      omega
    omega
  obtain ⟨A, hA⟩ := h3
  refine ⟨A % (z + 1), by have := Nat.mod_lt A (show 0 < z + 1 by omega); omega, by rw [h1, h2], ?_⟩
  have h4 : Int.tmod (A : Int) ((z + 1 : Nat) : Int) = ((A % (z + 1) : Nat) : Int) := by
    rw [Int.tmod_eq_emod_of_nonneg (by omega)]; simp
  have h5 : A % (z + 1) < z + 1 := Nat.mod_lt _ (by omega)
  rw [hA, h4]
  unfold wrap64
  omega
end UnzipBack
open UnzipBack in
theorem UnzipBack : portagelaw14_UnzipBack.Pure := by
  intro l s c S _ _
  have hl : l.length ≤ 9223372036854775807 := by have h1 : l.length * 104 ≤ 140737488351232 := S.1; omega
  refine ⟨401, ?_⟩
  unfold portagelaw14_UnzipBack.f
  rw [awake14 (by decide), Option.bind_some, if_pos rfl, zput hl, Option.bind_some, znum, Option.bind_some]
  by_cases h : zok l
  · have hn := (ZipW.small_of h.1).n
    have hsz := zipL_size h.1
    have hs4 : (ZipW.zipL l).size ≤ 4096 := by rw [hsz]; exact h.2
    obtain ⟨k, hk, e1, e2⟩ := cut_in c (ZipW.zipL l).size hs4
    obtain ⟨b, hb1, hb2⟩ := same_f l l 4 (by omega) (by decide) (may_vec h.1) (k := 401) (by omega)
    rw [zput_yes h]
    dsimp only
    rw [if_pos rfl, get_yes l h (by decide), Option.bind_some, e1, if_neg (by omega), e2, if_pos (by omega), if_pos (by omega), Int.toNat_natCast]
    have hj : ∃ f e, zipget_Get.f 401 ((ZipW.zipL l).extract 0 k) = some (f, e) ∧ ((e == 0) != ((k : Int) == ((ZipW.zipL l).size : Int))) = false := by
      have hc := ZipW.cut_join (ZipW.zipL l) k hk
      by_cases hkk : k = (ZipW.zipL l).size
      · have ee : (ZipW.zipL l).extract 0 k = ZipW.zipL l := by
          rw [hkk]
          have := (ZipW.ext_app (ZipW.zipL l) ⟨#[]⟩).1
          rw [ZipW.app_nil] at this
          exact this
        rw [ee]
        exact ⟨l, 0, get_yes l h (by decide), by rw [hkk]; simp⟩
      · have hne : ((k : Int) == ((ZipW.zipL l).size : Int)) = false := by
          rw [beq_eq_false_iff_ne]; omega
        rcases get_any39 ((ZipW.zipL l).extract 0 k) (K := 401) (by decide) with h5 | ⟨m, hz, hs, h5⟩
        · exact ⟨[], 1400, h5, by rw [hne]; decide⟩
        · exfalso
          rw [← hs] at hc
          have e := ZipW.zip_pre h.1 hz.1 hc
          have : (ZipW.zipL m).size = k := by rw [hs, ByteArray.size_extract]; omega
          rw [← e] at this
          omega
    obtain ⟨f, e, he, hf⟩ := hj
    rw [he, Option.bind_some, znum, Option.bind_some, if_pos rfl, hb1, Option.bind_some, hb2.2 rfl, if_pos rfl, znum, Option.bind_some]
    dsimp only
    rw [hf, if_neg (by decide)]
    exact second s (by decide)
  · rw [if_neg (zput_no h).2]
    exact second s (by decide)
end Go.Proofs.YtneogampbohfnaaDoor.Pure
