/- The plain law of portagelaw13.Zips: the program's archive is the document's. -/
import Derived.Test.YtneogampbohfnaaDoorZipLZZ
import Derived.Test.YtneogampbohfnaaDoorZipFZZ
import Derived.Test.YtneogampbohfnaaDoorZZ15
import Derived.Test.YtneogampbohfnaaDoorZZ0
import Derived.Test.YtneogampbohfnaaDoorZZOZips
namespace Go.Proofs.YtneogampbohfnaaDoor.Pure
set_option linter.unusedVariables false
set_option linter.unusedSimpArgs false
open Go.RowKit Go.Proofs.YtneogampbohfnaaDoor.ZZ Go.Proofs.YtneogampbohfnaaDoorW.PrintWords Go.Proofs.YtneogampbohfnaaDoorW.PrintLast Go.Proofs.YtneogampbohfnaaDoorW.PrintMore
open Go.Proofs.YtneogampbohfnaaDoor.ZB (S39 z39 k39 rd_T39)
namespace Zips
theorem awake_true {k : Nat} (hk : 150 ≤ k) : pm_awake.f k = some true := at_rounds (g := fun k => pm_awake.f k) pm_awake.mono hk (by decide +kernel)
theorem copy_l0 (l : List S39) (hl : l.length < 1353245080339) (hx : ∀ x ∈ l, x.f2.length < 17592186044416) : ∀ (d i : Nat), i + d = l.length → ∀ K, d + 1 ≤ K → pl_CopyEntries.l0 K l (l.take i) (i : Int) = some l
  | 0, i, hi, K, hK => by
    obtain ⟨q, rfl⟩ : ∃ q, K = q + 1 := ⟨K - 1, by omega⟩
    rw [pl_CopyEntries.l0, if_neg (by omega), List.take_of_length_le (by omega)]
  | d + 1, i, hi, K, hK => by
    obtain ⟨q, rfl⟩ : ∃ q, K = q + 1 := ⟨K - 1, by omega⟩
    have hb := hx _ (mem_T39 l i (by omega))
    have ih := copy_l0 l hl hx d (i + 1) (by omega) q (by omega)
    have hw : wrap64 ((i : Int) + 1) = ((i + 1 : Nat) : Int) := by unfold wrap64; omega
    rw [pl_CopyEntries.l0, if_pos (by omega), if_pos (by omega), hw]
    unfold pl_CopyEntry.f
    rw [Option.bind_some, if_pos (by rw [List.length_nil]; omega), Option.bind_some, if_pos (by rw [List.length_take]; omega)]
    dsimp only
    rw [List.nil_append]
    have e : l.take i ++ [rd_T39 l (i : Int)] = l.take (i + 1) := by
      rw [List.take_succ_eq_append_getElem (show i < l.length by omega)]
      congr 2
      unfold rd_T39
      rw [Int.toNat_natCast, List.getD_eq_getElem?_getD, List.getElem?_eq_getElem (show i < l.length by omega)]
      rfl
    rw [← e] at ih
    exact ih
end Zips
open Zips in
theorem Zips : pm_Zips.Pure := by
  intro l S
  have hl : l.length * 104 ≤ 140737488351232 := S.1
  have hx : ∀ x ∈ l, x.f2.length ≤ 17592186043904 := fun x h => by
    have h1 := S.2 x h
    unfold Sz39 at h1
    have : x.f2.length * 8 ≤ 140737488351232 := h1.2.2.1.1
    omega
  obtain ⟨b, hb1, hb2⟩ := same_f l l 17592186043904 (by omega) (by decide) hx (k := l.length + 17592186044404) (by omega)
  refine ⟨l.length + 17592186044404, ?_⟩
  have hc : pl_CopyFolder.f (l.length + 17592186044404) l = some l := by
    unfold pl_CopyFolder.f pl_CopyEntries.f
    have := copy_l0 l (by omega) (fun x h => by have := hx x h; omega) l.length 0 (by omega) (l.length + 17592186044404) (by omega)
    rw [List.take_zero] at this
    have h2 : pl_CopyEntries.l0 (l.length + 17592186044404) l [] 0 = some l := this
    rw [h2, Option.bind_some]
  unfold pm_Zips.f
  rw [hc, Option.bind_some, zput (by omega), Option.bind_some, zip_k39 l 17592186043904 (by omega) (by decide) hx (by omega), Option.bind_some, if_pos rfl, znum, Option.bind_some, if_pos rfl, zsize (by omega), Option.bind_some, size_k39 l 17592186043904 (by omega) (by decide) hx (by omega), Option.bind_some, if_pos rfl, zmay (by omega), Option.bind_some, may_k39 l 17592186043904 (by omega) (by decide) hx (by omega), Option.bind_some, if_pos (by simp), hb1, Option.bind_some, hb2.2 rfl, if_pos rfl, awake_true (by omega)]
  rfl
end Go.Proofs.YtneogampbohfnaaDoor.Pure
