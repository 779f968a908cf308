/- The plain law of portagelaw13.ZipUnlike: unlike folders have unlike archives. -/
import Derived.Test.YtneogampbohfnaaDoorZipLZF
import Derived.Test.YtneogampbohfnaaDoorZipEZF
import Derived.Test.YtneogampbohfnaaDoorZF10
import Derived.Test.YtneogampbohfnaaDoorZF7
import Derived.Test.YtneogampbohfnaaDoorZFOZipUnlike
import Derived.Test.YtneogampbohfnaaDoorZipU
namespace Go.Proofs.YtneogampbohfnaaDoor.Pure
set_option linter.unusedVariables false
set_option linter.unusedSimpArgs false
open Go.RowKit Go.Proofs.YtneogampbohfnaaDoor.ZF Go.Proofs.YtneogampbohfnaaDoorW.PrintWords Go.Proofs.YtneogampbohfnaaDoorW.PrintLast Go.Proofs.YtneogampbohfnaaDoorW.PrintMore
open Go.Proofs.YtneogampbohfnaaDoor.ZB (S39 z39 k39 rd_T39)
namespace ZipUnlike
theorem awake_true {k : Nat} (hk : 150 ≤ k) : portagelaw13_awake.f k = some true := at_rounds (g := fun k => portagelaw13_awake.f k) portagelaw13_awake.mono hk (by decide +kernel)
theorem empty_l : (⟨#[]⟩ : ByteArray).toList = ([] : List UInt8) := by rw [ByteArray.toList_eq]
end ZipUnlike
open ZipUnlike in
theorem ZipUnlike : portagelaw13_ZipUnlike.Pure := by
  intro l m S U
  have hl : l.length ≤ 9223372036854775807 := by have h1 : l.length * 104 ≤ 140737488351232 := S.1; omega
  have hm : m.length ≤ 9223372036854775807 := by have h1 : m.length * 104 ≤ 140737488351232 := U.1; omega
  refine ⟨201, ?_⟩
  unfold portagelaw13_ZipUnlike.f
  rw [awake_true (by decide), Option.bind_some, if_pos rfl, zput hl, zput hm, Option.bind_some, Option.bind_some, znum, Option.bind_some]
  by_cases h : zok l
  · rw [zput_yes h, if_pos rfl, znum, Option.bind_some]
    by_cases g : zok m
    · rw [zput_yes g]
      dsimp only
      rw [portagelaw13_ZipUnlike.j0, if_neg (by decide)]
      have hn := (ZipW.small_of h.1).n
      obtain ⟨b, h1, h2⟩ := same_f l m 4 (by omega) (by decide) (may_vec h.1) (k := 200) (by omega)
      rw [h1, Option.bind_some]
      congr 1
      by_cases e : l = m
      · rw [e, h2.2 e]; simp
      · have hb : b = false := by
          cases b
          · rfl
          · exact absurd (h2.1 rfl) e
        rw [hb]
        have : (ZipW.zipL l).toList ≠ (ZipW.zipL m).toList := fun e2 => e (ZipW.zipL_inj h.1 g.1 (bs_eq e2))
        rw [beq_eq_false_iff_ne.2 this]
        rfl
    · have z := zput_no g
      dsimp only
      rw [portagelaw13_ZipUnlike.j0, if_pos (by simpa using z.2), znum, Option.bind_some, if_pos rfl, znum, Option.bind_some, if_neg z.2, z.1, empty_l]
      rfl
  · have y := zput_no h
    rw [if_neg y.2, portagelaw13_ZipUnlike.j0, if_pos rfl, znum, Option.bind_some, if_neg y.2, y.1, if_pos empty_l, znum, Option.bind_some]
    by_cases g : zok m
    · rw [zput_yes g]; rfl
    · have z := zput_no g
      rw [if_neg z.2, z.1, empty_l]
      rfl
end Go.Proofs.YtneogampbohfnaaDoor.Pure
