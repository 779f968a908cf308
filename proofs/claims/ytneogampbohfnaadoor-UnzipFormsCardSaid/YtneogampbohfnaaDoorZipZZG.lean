/- Texts that are no archive. -/
import Derived.Test.YtneogampbohfnaaDoorZipKZG
namespace Go.Proofs.YtneogampbohfnaaDoor.ZG
set_option linter.unusedVariables false
set_option linter.unusedSimpArgs false
open Go.RowKit Go.Proofs.YtneogampbohfnaaDoorW.PrintWords Go.Proofs.YtneogampbohfnaaDoorW.PrintLast Go.Proofs.YtneogampbohfnaaDoorW.PrintMore
open Go.Proofs.YtneogampbohfnaaDoor.ZB (S39 z39 k39 rd_T39)
/-- A text that no folder's archive is, is none. -/
theorem none_at (s : ByteArray) (h : ∀ m, zok m → ZipW.zipL m ≠ s) {K : Nat} (hK : 200 ≤ K) : zipget_Get.f K s = some ([], 1400) := by
  rcases get_any39 s hK with e | ⟨m, hm, hs, _⟩
  · exact e
  · exact absurd hs (h m hm)
theorem not_cut (l : List S39) (hz : zok l) (k : Nat) (hk : k < (ZipW.zipL l).size) {K : Nat} (hK : 200 ≤ K) : zipget_Get.f K ((ZipW.zipL l).extract 0 k) = some ([], 1400) :=
  none_at _ (fun m hm hs => by
    have hc := ZipW.cut_join (ZipW.zipL l) k (by omega)
    rw [← hs] at hc
    have e := ZipW.zip_pre hz.1 hm.1 hc
    have : (ZipW.zipL m).size = k := by rw [hs, ByteArray.size_extract]; omega
    rw [← e] at this
    omega) hK
theorem front_at (m : List S39) (hm : ZipW.mayL m = true) (i : Nat) (hi : i ≤ m.length) (x : S39) (hx : ZipW.Fit x) (r : ByteArray) (h : ZipW.zipL m = ZipW.frontTo m i ++ (ZipW.partF x ++ r)) : i < m.length ∧ rd_T39 m (i : Int) = x ∧ ZipW.zipL m = ZipW.frontTo m (i + 1) ++ r := by
  rcases Nat.lt_or_ge i m.length with hl | hl
  · obtain ⟨u, hu⟩ := ZipW.zipL_cut m (i + 1) hl
    have hu0 := hu
    rw [ZipW.front_next, ZipW.app_assoc, h] at hu
    have e := ZipW.part_inj hx (ZipW.fit_of hm i hl) (ZipW.app_inj hu rfl).2
    exact ⟨hl, e.1.symm, by rw [hu0, e.2]⟩
  · have e : i = m.length := by omega
    subst e
    rw [ZipW.zipL_parts] at h
    have h2 := (ZipW.app_inj h rfl).2
    exact absurd (show ZipW.partF x ++ r = ZipW.endB m ++ (⟨#[]⟩ : ByteArray) from by rw [ZipW.app_nil]; exact h2.symm) (ZipW.not_both _ _ _ _)
theorem sizeTo_up (m : List S39) (i : Nat) : ∀ d, ZipW.sizeTo m i ≤ ZipW.sizeTo m (i + d)
  | 0 => Nat.le_refl _
  | d + 1 => by
    have := sizeTo_up m i d
    rw [show i + (d + 1) = (i + d) + 1 from rfl, ZipW.sizeTo]
    omega
theorem size_one (m : List S39) (hm : ZipW.mayL m = true) (h : 0 < m.length) : ZipW.sizeTo m 1 ≤ (ZipW.zipL m).size := by
  rw [zipL_size hm]
  unfold ZipW.sizeL
  have := sizeTo_up m 1 (m.length - 1)
  rwa [show 1 + (m.length - 1) = m.length from by omega] at this
theorem size_first (m : List S39) : ZipW.sizeTo m 1 = 22 + (76 + 2 * ((rd_T39 m ((0 : Nat) : Int)).f0.size + 26) + (rd_T39 m ((0 : Nat) : Int)).f6.size) := rfl
theorem front0 (m : List S39) (s : ByteArray) : ZipW.frontTo m 0 ++ s = s := ZipW.nil_app s
/-- The entry of the test. -/
def x1 : S39 := smS (smT ⟨#[97]⟩ 0 1 ⟨#[104, 105]⟩)
theorem x1_is : rd_T39 y1 ((0 : Nat) : Int) = x1 := rfl
theorem x1_fit : ZipW.Fit x1 := ZipW.fit_of zok_y1.1 0 (by decide)
theorem x1_name : x1.f0.size = 1 ∧ x1.f6.size = 2 := by decide +kernel
theorem x1_less : Op.bytesLess x1.f0.toList x1.f0.toList = false := by decide +kernel
theorem x1_part : (ZipW.partF x1).size = 59 := by
  have hz := ZipW.headB_size x1 x1_fit.head
  have e4 : (⟨#[80, 75, 3, 4]⟩ : ByteArray).size = 4 := rfl
  unfold ZipW.partF ZipW.namesB
  simp only [ByteArray.size_append, ZipW.commonB_size, hz, e4, x1_name.1, x1_name.2]
theorem y1_parts : ZipW.zipL y1 = ZipW.partF x1 ++ ZipW.endB y1 := by
  rw [ZipW.zipL_parts]
  show ZipW.frontTo y1 1 ++ _ = _
  rw [ZipW.front_next, x1_is, ZipW.frontTo, ZipW.nil_app]
theorem y1_size : (ZipW.zipL y1).size = 154 := by
  rw [zipL_size zok_y1.1]
  decide +kernel
theorem nil_size : (ZipW.zipL []).size = 22 := rfl
theorem y1_cut : (ZipW.zipL y1).extract 0 59 = ZipW.partF x1 ∧ (ZipW.zipL y1).extract 59 154 = ZipW.endB y1 := by
  have h := ZipW.ext_app (ZipW.partF x1) (ZipW.endB y1)
  rw [← y1_parts, x1_part, y1_size] at h
  exact h
theorem none_7 (r : ByteArray) {K : Nat} (hK : 200 ≤ K) : zipget_Get.f K (ZipW.partF x1 ++ ZipW.partF x1 ++ r) = some ([], 1400) :=
  none_at _ (fun m hm hs => by
    rw [ZipW.app_assoc] at hs
    obtain ⟨h1, h2, h3⟩ := front_at m hm.1 0 (by omega) x1 x1_fit _ (by rw [front0]; exact hs)
    obtain ⟨h4, h5, _⟩ := front_at m hm.1 1 h1 x1 x1_fit _ h3
    have hmay := hm.1
    unfold ZipW.mayL at hmay
    rw [Bool.and_eq_true] at hmay
    have h6 := List.all_eq_true.1 hmay.1 1 (List.mem_range.2 h4)
    unfold ZipW.mayAt at h6
    simp only [Bool.and_eq_true] at h6
    have h7 := h6.2.1
    unfold ZipW.rises at h7
    have e : rd_T39 m (((1 : Nat) : Int) - 1) = x1 := h2
    rw [e, h5, x1_less] at h7
    exact absurd h7 (by decide)) hK
theorem none_8 {K : Nat} (hK : 200 ≤ K) : zipget_Get.f K (ZipW.partF x1 ++ ZipW.zipL []) = some ([], 1400) :=
  none_at _ (fun m hm hs => by
    obtain ⟨h1, h2, _⟩ := front_at m hm.1 0 (by omega) x1 x1_fit _ (by rw [front0]; exact hs)
    have h3 := size_one m hm.1 h1
    rw [size_first, h2, x1_name.1, x1_name.2, hs, ByteArray.size_append, x1_part, nil_size] at h3
    omega) hK
theorem no_entry {m : List S39} (h : ¬ 0 < m.length) : m = [] := List.length_eq_zero_iff.mp (by omega)
theorem none_9 {K : Nat} (hK : 200 ≤ K) : zipget_Get.f K (ZipW.endB y1) = some ([], 1400) :=
  none_at _ (fun m hm hs => by
    have hz : (ZipW.endB y1).size = 95 := by
      have := congrArg ByteArray.size y1_parts
      rw [y1_size, ByteArray.size_append, x1_part] at this
      omega
    by_cases h : 0 < m.length
    · obtain ⟨u, hu⟩ := ZipW.zipL_cut m 1 h
      rw [ZipW.front_next, ZipW.frontTo, ZipW.nil_app, hs] at hu
      exact absurd (show ZipW.partF (rd_T39 m ((0 : Nat) : Int)) ++ u = ZipW.endB y1 ++ (⟨#[]⟩ : ByteArray) from by rw [ZipW.app_nil]; exact hu.symm) (ZipW.not_both _ _ _ _)
    · rw [no_entry h] at hs
      have := congrArg ByteArray.size hs
      rw [nil_size, hz] at this
      omega) hK
theorem starts_80 (m : List S39) : ∃ r, ZipW.zipL m = (⟨#[80]⟩ : ByteArray) ++ r := by
  by_cases h : 0 < m.length
  · obtain ⟨u, hu⟩ := ZipW.zipL_cut m 1 h
    obtain ⟨v, hv⟩ := ZipW.part_starts (rd_T39 m ((0 : Nat) : Int))
    rw [ZipW.front_next, ZipW.frontTo, ZipW.nil_app, hv, ZipW.app_assoc] at hu
    exact ⟨(⟨#[75, 3, 4]⟩ : ByteArray) ++ (v ++ u), by rw [hu, ← ZipW.app_assoc (⟨#[80]⟩ : ByteArray)]; rfl⟩
  · rw [no_entry h]
    exact ⟨(⟨#[75, 5, 6, 0, 0, 0, 0, 0, 0, 0, 0, 0, 0, 0, 0, 0, 0, 0, 0, 0, 0]⟩ : ByteArray), by decide +kernel⟩
theorem none_11 (r : ByteArray) {K : Nat} (hK : 200 ≤ K) : zipget_Get.f K ((⟨#[0]⟩ : ByteArray) ++ r) = some ([], 1400) :=
  none_at _ (fun m hm hs => by
    obtain ⟨u, hu⟩ := starts_80 m
    rw [hs] at hu
    have := (ZipW.app_inj hu rfl).1
    injection this with e
    exact absurd e (by decide)) hK
theorem none_13 {K : Nat} (hK : 200 ≤ K) : zipget_Get.f K ((ZipW.zipL []).extract 0 21 ++ (⟨#[1]⟩ : ByteArray)) = some ([], 1400) :=
  none_at _ (fun m hm hs => by
    by_cases h : 0 < m.length
    · have h3 := size_one m hm.1 h
      rw [size_first, hs] at h3
      have e : ((ZipW.zipL []).extract 0 21 ++ (⟨#[1]⟩ : ByteArray)).size = 22 := by decide +kernel
      rw [e] at h3
      omega
    · rw [no_entry h] at hs
      exact absurd hs (by decide +kernel)) hK
end Go.Proofs.YtneogampbohfnaaDoor.ZG
