/- The plain law of portagelaw13.ZipSizes: an archive is as long as its parts. -/
import Derived.Test.YtneogampbohfnaaDoorZipLZF
import Derived.Test.YtneogampbohfnaaDoorZF8
import Derived.Test.YtneogampbohfnaaDoorZF7
import Derived.Test.YtneogampbohfnaaDoorZFOZipSizes
namespace Go.Proofs.YtneogampbohfnaaDoor.Pure
set_option linter.unusedVariables false
set_option linter.unusedSimpArgs false
open Go.RowKit Go.Proofs.YtneogampbohfnaaDoor.ZF Go.Proofs.YtneogampbohfnaaDoorW.PrintWords Go.Proofs.YtneogampbohfnaaDoorW.PrintLast Go.Proofs.YtneogampbohfnaaDoorW.PrintMore
open Go.Proofs.YtneogampbohfnaaDoor.ZB (S39 z39 k39 rd_T39)
namespace ZipSizes
theorem awake_true {k : Nat} (hk : 150 ≤ k) : portagelaw13_awake.f k = some true := at_rounds (g := fun k => portagelaw13_awake.f k) portagelaw13_awake.mono hk (by decide +kernel)
theorem round (s : ByteArray) (l : List S39) (h : zok l) (hs : s.size = ZipW.sizeL l) : ∀ (d i : Nat), i + d = l.length → ∀ K, d + 1 ≤ K → portagelaw13_ZipSizes.l0 K s (ZipW.sizeTo l i : Int) (i : Int) l = some true
  | 0, i, hi, K, hK => by
    obtain ⟨m, rfl⟩ : ∃ m, K = m + 1 := ⟨K - 1, by omega⟩
    have hn := (ZipW.small_of h.1).n
    have hi' : i = l.length := by omega
    subst hi'
    have e1 : (s.size : Int) = (ZipW.sizeTo l l.length : Int) := by rw [hs]; rfl
    have e2 : ZipW.sizeR l = (ZipW.sizeTo l l.length : Int) := zsize_yes h.1
    have h2 : ZipW.sizeTo l l.length ≤ 4096 := h.2
    rw [portagelaw13_ZipSizes.l0, if_neg (by omega), if_pos e1, zsize (by omega), Option.bind_some, e2, if_pos rfl]
    congr 1
    exact decide_eq_true (p := (ZipW.sizeTo l l.length : Int) ≤ 4096) (by omega)
  | d + 1, i, hi, K, hK => by
    obtain ⟨m, rfl⟩ : ∃ m, K = m + 1 := ⟨K - 1, by omega⟩
    have hsm := ZipW.small_of h.1
    have hn := hsm.n
    have ha := hsm.a i (by omega)
    have hz := ZipW.sizeTo_le hsm i (by omega)
    have hz4 : ZipW.sizeTo l i ≤ 4000 := by omega
    rw [portagelaw13_ZipSizes.l0, if_pos (by omega), if_pos (by omega), zw64 (n := (i : Int) + 1) (by omega) (by omega)]
    have e : wrap64 ((wrap64 ((wrap64 ((wrap64 ((ZipW.sizeTo l i : Int) + 30)) + 46)) + (wrap64 (2 * (wrap64 ((((rd_T39 l (i : Int)).f0).size : Int) + 26)))))) + (((rd_T39 l (i : Int)).f6).size : Int)) = (ZipW.sizeTo l (i + 1) : Int) := by
      rw [ZipW.sizeTo]
      generalize ZipW.sizeTo l i = a at *
      generalize (rd_T39 l (i : Int)).f0.size = b at *
      generalize (rd_T39 l (i : Int)).f6.size = c at *
      clear hs hK hi h hz hn
      unfold wrap64
      omega
    rw [e]
    exact round s l h hs d (i + 1) (by omega) m (by omega)
end ZipSizes
theorem ZipSizes : portagelaw13_ZipSizes.Pure := by
  intro l S
  have hl : l.length ≤ 9223372036854775807 := by have h1 : l.length * 104 ≤ 140737488351232 := S.1; omega
  refine ⟨l.length + 150, ?_⟩
  unfold portagelaw13_ZipSizes.f
  rw [ZipSizes.awake_true (by omega), Option.bind_some, if_pos rfl, zput hl, Option.bind_some, znum, Option.bind_some]
  by_cases h : (ZipW.putR l).2 = 0
  · have hz := zput_zero h
    rw [if_pos h, zput_yes hz]
    exact ZipSizes.round _ l hz (zipL_size hz.1) l.length 0 (by omega) _ (by omega)
  · rw [if_neg h]
    have h1 := (zput_no (fun hz => h (by rw [zput_yes hz]))).1
    rw [h1]
    decide +kernel
end Go.Proofs.YtneogampbohfnaaDoor.Pure
