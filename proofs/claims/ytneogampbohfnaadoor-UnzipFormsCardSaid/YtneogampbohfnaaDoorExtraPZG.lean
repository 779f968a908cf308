/- Chapter 12 over plain lists: what was put is got. -/
import Derived.Test.YtneogampbohfnaaDoorExtraGZG
namespace Go.Proofs.YtneogampbohfnaaDoor.ZG
set_option linter.unusedVariables false
set_option linter.unusedSimpArgs false
open Go.RowKit Go.Proofs.YtneogampbohfnaaDoorW.PrintWords Go.Proofs.YtneogampbohfnaaDoorW.PrintLast Go.Proofs.YtneogampbohfnaaDoorW.PrintMore
theorem mayE_parts {v : List Int} {stamp node : Int} (h : mayE v stamp node = true) : v.length = 4 ∧ (∀ x ∈ v, 0 ≤ x ∧ x ≤ 1048576) ∧ (1 ≤ stamp ∧ stamp ≤ 1048576) ∧ (0 ≤ node ∧ node < 4) := by
  unfold mayE vok okc nodeOk at h
  simp only [Bool.and_eq_true, decide_eq_true_eq, List.all_eq_true] at h
  obtain ⟨⟨h1, h2⟩, h3, h4, h5⟩ := h
  exact ⟨h1, fun x hx => h2 x hx, ⟨h3, h4.2⟩, h5⟩
theorem lt32 {x : Nat} (h : x < 4294967296) : x < 2 ^ (8 * 4) := Nat.lt_of_lt_of_eq h (by decide)
theorem lt8 {x : Nat} (h : x < 256) : x < 2 ^ (8 * 1) := Nat.lt_of_lt_of_eq h (by decide)
theorem get_put_l0 (s : ByteArray) (v : List Int) (stamp node : Int) (gone : Bool) (hm : mayE v stamp node = true) : ∀ (d i : Nat) (b : Bool), i + d = 4 → ∀ K, 60 + d ≤ K →
    extra_Get.l0 K s (i : Int) (strOfNums ((v.drop i).flatMap (fun x => lowL x 4) ++ endL stamp node gone)) b ⟨#[]⟩ false (v.take i) 0 0 0 ⟨#[]⟩ 0 0 = some (fin s gone v stamp node) := by
  obtain ⟨hv, hx, hs, hn⟩ := mayE_parts hm
  have hfl : ∀ l : List Int, l.length ≤ 4 → (l.flatMap (fun x => lowL x 4)).length ≤ 16 := by
    intro l hl
    have : ∀ l : List Int, (l.flatMap (fun x => lowL x 4)).length = 4 * l.length := by
      intro l
      induction l with
      | nil => rfl
      | cons x l ih => rw [List.flatMap_cons, List.length_append, ih, lowL_length, List.length_cons]; omega
    rw [this]; omega
  have hel : (endL stamp node gone).length = 6 := by unfold endL; simp [lowL_length]
  intro d
  induction d with
  | zero =>
    intro i b hi K hK
    obtain ⟨q, rfl⟩ : ∃ q, K = q + 1 := ⟨K - 1, by omega⟩
    obtain rfl : i = 4 := by omega
    obtain ⟨S, rfl⟩ : ∃ S : Nat, stamp = (S : Int) := ⟨stamp.toNat, by omega⟩
    obtain ⟨N, rfl⟩ : ∃ N : Nat, node = (N : Int) := ⟨node.toNat, by omega⟩
    obtain ⟨G, hG, hG2⟩ : ∃ G : Nat, (if gone = true then (1 : Int) else 0) = (G : Int) ∧ G < 2 ^ (8 * 1) ∧ (((G : Int) == 1) = gone) := by
      cases gone
      · exact ⟨0, rfl, by decide, rfl⟩
      · exact ⟨1, rfl, by decide, rfl⟩
    have h1 := num_k S 4 (by omega) (lt32 (by omega)) (lowL (N : Int) 1 ++ lowL (G : Int) 1) (by simp [lowL_length]) b (k := q) (by omega)
    have h2 := num_k N 1 (by omega) (lt8 (by omega)) (lowL (G : Int) 1) (by simp [lowL_length]) b (k := q) (by omega)
    have h3 := num_k G 1 (by omega) hG2.1 [] (by simp) b (k := q) (by omega)
    rw [List.append_nil] at h3
    have e : (v.drop 4).flatMap (fun x => lowL x 4) ++ endL (S : Int) (N : Int) gone = lowL (S : Int) 4 ++ (lowL (N : Int) 1 ++ lowL (G : Int) 1) := by
      rw [List.drop_eq_nil_of_le (by omega), List.flatMap_nil, List.nil_append]
      unfold endL
      rw [hG, List.append_assoc]
    rw [e, List.take_of_length_le (by omega)]
    have := get_tail s v _ _ _ _ b b b b (S : Int) (N : Int) (G : Int) (K := q) (by omega) h1 h2 h3
    rw [hG2.2] at this
    exact this
  | succ d ih =>
    intro i b hi K hK
    obtain ⟨q, rfl⟩ : ∃ q, K = q + 1 := ⟨K - 1, by omega⟩
    have hiv : i < v.length := by omega
    have hd := List.drop_eq_getElem_cons hiv
    obtain ⟨hx0, hx1⟩ := hx _ (List.getElem_mem hiv)
    have ht : v.take (i + 1) = v.take i ++ [v[i]] := (List.take_append_getElem hiv).symm
    obtain ⟨X, hX⟩ : ∃ X : Nat, v[i] = (X : Int) := ⟨v[i].toNat, by omega⟩
    have ih := ih (i + 1) b (by omega) q (by omega)
    rw [ht] at ih
    rw [hX] at hd ih hx1
    have h1 := num_k X 4 (by omega) (lt32 (by omega)) ((v.drop (i + 1)).flatMap (fun x => lowL x 4) ++ endL stamp node gone) (by
        rw [List.length_append, hel]
        have := hfl (v.drop (i + 1)) (by simp; omega)
        omega) b (k := q) (by omega)
    rw [hd, List.flatMap_cons, List.append_assoc]
    have h1 : extra_Taker_Num.f q (strOfNums (lowL (X : Int) 4 ++ ((v.drop (i + 1)).flatMap (fun x => lowL x 4) ++ endL stamp node gone))) b 4 = _ := h1
    rw [extra_Get.l0, if_pos (by omega), h1, Option.bind_some]
    dsimp only
    rw [if_pos (by simp; omega), w64 (by omega) (by omega), show (i : Int) + 1 = ((i + 1 : Nat) : Int) from by omega]
    exact ih
theorem get_put (v : List Int) (stamp node : Int) (gone : Bool) (hm : mayE v stamp node = true) {k : Nat} (hk : 100 ≤ k) : extra_Get.f k (strOfNums (putL v stamp node gone)) = some (⟨#[]⟩, gone, v, stamp, node, 0, ⟨#[]⟩, 0, 0, 0) := by
  have hz : 4 ≤ (strOfNums (putL v stamp node gone)).size := by
    rw [strOfNums_size]; unfold putL
    simp [lowL_length]; omega
  have e : putL v stamp node gone = (lowL 20592 2 ++ lowL 22 2) ++ (v.flatMap (fun x => lowL x 4) ++ endL stamp node gone) := by
    unfold putL; rw [List.append_assoc]
  have h4 : (lowL 20592 2 ++ lowL 22 2).length = 4 := by simp [lowL_length]
  have := get_put_l0 (strOfNums (putL v stamp node gone)) v stamp node gone hm 4 0 false rfl k (by omega)
  rw [List.drop_zero, List.take_zero] at this
  unfold extra_Get.f extra_Taker_Text.f
  rw [if_neg (by omega), if_pos (by omega), if_pos (by omega), Option.bind_some, show ((4 : Int)).toNat = 4 from rfl, str_drop]
  rw [show (putL v stamp node gone).drop 4 = v.flatMap (fun x => lowL x 4) ++ endL stamp node gone from by rw [e]; exact List.drop_left' h4]
  dsimp only
  refine this.trans ?_
  unfold fin
  rw [if_pos ⟨hm, rfl⟩]
end Go.Proofs.YtneogampbohfnaaDoor.ZG
