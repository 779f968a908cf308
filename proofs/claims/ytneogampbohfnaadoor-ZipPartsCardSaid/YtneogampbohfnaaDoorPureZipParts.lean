/- The plain law of portagelaw13.ZipParts: each entry's bytes stand in the archive, and the end tells where. -/
import Derived.Test.YtneogampbohfnaaDoorZipVZP
import Derived.Test.YtneogampbohfnaaDoorZipOZP
import Derived.Test.YtneogampbohfnaaDoorZP8
import Derived.Test.YtneogampbohfnaaDoorZP7
import Derived.Test.YtneogampbohfnaaDoorZPOZipParts
namespace Go.Proofs.YtneogampbohfnaaDoor.Pure
set_option linter.unusedVariables false
set_option linter.unusedSimpArgs false
open Go.RowKit Go.Proofs.YtneogampbohfnaaDoor.ZP Go.Proofs.YtneogampbohfnaaDoorW.PrintWords Go.Proofs.YtneogampbohfnaaDoorW.PrintLast Go.Proofs.YtneogampbohfnaaDoorW.PrintMore
open Go.Proofs.YtneogampbohfnaaDoor.ZB (S39 z39 k39 rd_T39 lowL lowL_length)
namespace ZipParts
theorem awake_true {k : Nat} (hk : 150 ≤ k) : portagelaw13_awake.f k = some true := at_rounds (g := fun k => portagelaw13_awake.f k) portagelaw13_awake.mono hk (by decide +kernel)
theorem n4 (X : Nat) (h : X < 4294967296) {k : Nat} (hk : 10 ≤ k) : portageref10_Number.f k (strOfNums (lowL (X : Int) 4)) = some (X : Int) := number_k X 4 (by decide) (Nat.lt_of_lt_of_eq h (by decide)) hk
theorem n2 (X : Nat) (h : X < 65536) {k : Nat} (hk : 10 ≤ k) : portageref10_Number.f k (strOfNums (lowL (X : Int) 2)) = some (X : Int) := number_k X 2 (by decide) (Nat.lt_of_lt_of_eq h (by decide)) hk
theorem pk34_l : (⟨#[80, 75, 3, 4]⟩ : ByteArray).toList = ([80, 75, 3, 4] : List UInt8) := by decide +kernel
theorem pk12_l : (⟨#[80, 75, 1, 2]⟩ : ByteArray).toList = ([80, 75, 1, 2] : List UInt8) := by decide +kernel
theorem pk34_s : (⟨#[80, 75, 3, 4]⟩ : ByteArray).size = 4 := rfl
theorem pk12_s : (⟨#[80, 75, 1, 2]⟩ : ByteArray).size = 4 := rfl
theorem pk56_s : (⟨#[80, 75, 5, 6]⟩ : ByteArray).size = 4 := rfl
/-- One entry, at its places. -/
theorem entry (s : ByteArray) (l : List S39) (F a c i z : Nat) (x : S39) (q : Nat) (hq : 10 ≤ q) (r r2 A C : ByteArray) (hs : s = A ++ (ZipW.partF x ++ r)) (ha : a = A.size) (hs2 : s = C ++ (partB x a ++ r2)) (hc : c = C.size) (hh : (ZipW.headB x).size = 26) (h0 : x.f0.size ≤ 8) (h6 : x.f6.size ≤ 300) (hz : s.size ≤ 5000) (hi : i ≤ 6) (hsz : s.size = z + 22)
    (hfit : a + 56 + x.f0.size + x.f6.size ≤ s.size) (hfit2 : c + 72 + x.f0.size ≤ s.size) :
    portagelaw13_ZipParts.j3 (q + 1) s (F : Int) (a : Int) (c : Int) (i : Int) ((56 + x.f0.size : Nat) : Int) false l x.f0 x.f1 x.f2 x.f3 x.f4 x.f5 x.f6 x.f7 x.f8 = portagelaw13_ZipParts.l0 q s (F : Int) ((a + 56 + x.f0.size + x.f6.size : Nat) : Int) ((c + 72 + x.f0.size : Nat) : Int) ((i + 1 : Nat) : Int) l := by
  have cs := ZipW.commonB_size x
  have ns := ZipW.namesB_size x hh
  -- the pieces
  have x1 : s.extract a (a + 4) = (⟨#[80, 75, 3, 4]⟩ : ByteArray) := ext_at (A := A) (C := ZipW.commonB x ++ (ZipW.namesB x ++ (x.f6 ++ r))) (by rw [hs]; unfold ZipW.partF; simp only [ZipW.app_assoc]) ha (by rw [ha, pk34_s])
  have x2 : s.extract (a + 30) (a + 30 + x.f0.size) = x.f0 := ext_at (A := A ++ ((⟨#[80, 75, 3, 4]⟩ : ByteArray) ++ ZipW.commonB x)) (C := ZipW.headB x ++ (x.f6 ++ r)) (by rw [hs]; unfold ZipW.partF ZipW.namesB; simp only [ZipW.app_assoc]) (by simp only [ByteArray.size_append, pk34_s, cs]; omega) (by simp only [ByteArray.size_append, pk34_s, cs]; omega)
  have x3 : s.extract (a + 56 + x.f0.size) (a + 56 + x.f0.size + x.f6.size) = x.f6 := ext_at (A := A ++ ((⟨#[80, 75, 3, 4]⟩ : ByteArray) ++ (ZipW.commonB x ++ ZipW.namesB x))) (C := r) (by rw [hs]; unfold ZipW.partF; simp only [ZipW.app_assoc]) (by simp only [ByteArray.size_append, pk34_s, cs, ns]; omega) (by simp only [ByteArray.size_append, pk34_s, cs, ns]; omega)
  have x4 : s.extract (a + 4) (a + 30) = ZipW.commonB x := ext_at (A := A ++ (⟨#[80, 75, 3, 4]⟩ : ByteArray)) (C := ZipW.namesB x ++ (x.f6 ++ r)) (by rw [hs]; unfold ZipW.partF; simp only [ZipW.app_assoc]) (by simp only [ByteArray.size_append, pk34_s]; omega) (by simp only [ByteArray.size_append, pk34_s, cs]; omega)
  have x5 : s.extract (a + 30) (a + 56 + x.f0.size) = ZipW.namesB x := ext_at (A := A ++ ((⟨#[80, 75, 3, 4]⟩ : ByteArray) ++ ZipW.commonB x)) (C := x.f6 ++ r) (by rw [hs]; unfold ZipW.partF; simp only [ZipW.app_assoc]) (by simp only [ByteArray.size_append, pk34_s, cs]; omega) (by simp only [ByteArray.size_append, pk34_s, cs, ns]; omega)
  have s20 : (ZipW.numsB 2 [20]).size = 2 := by rw [ZipW.numsB_size]; rfl
  have s000 : (ZipW.numsB 2 [0, 0, 0]).size = 6 := by rw [ZipW.numsB_size]; rfl
  have s40 : (ZipW.numsB 4 [0, (a : Int)]).size = 8 := by rw [ZipW.numsB_size]; rfl
  have y1 : s.extract c (c + 4) = (⟨#[80, 75, 1, 2]⟩ : ByteArray) := ext_at (A := C) (C := ZipW.numsB 2 [20] ++ (ZipW.commonB x ++ (ZipW.numsB 2 [0, 0, 0] ++ (ZipW.numsB 4 [0, (a : Int)] ++ (ZipW.namesB x ++ r2))))) (by rw [hs2]; unfold partB; simp only [ZipW.app_assoc]) hc (by rw [hc, pk12_s])
  have y2 : s.extract (c + 6) (c + 32) = ZipW.commonB x := ext_at (A := C ++ ((⟨#[80, 75, 1, 2]⟩ : ByteArray) ++ ZipW.numsB 2 [20])) (C := ZipW.numsB 2 [0, 0, 0] ++ (ZipW.numsB 4 [0, (a : Int)] ++ (ZipW.namesB x ++ r2))) (by rw [hs2]; unfold partB; simp only [ZipW.app_assoc]) (by simp only [ByteArray.size_append, pk12_s, s20]; omega) (by simp only [ByteArray.size_append, pk12_s, s20, cs]; omega)
  have y3 : s.extract (c + 42) (c + 46) = strOfNums (lowL (a : Int) 4) := ext_at (A := C ++ ((⟨#[80, 75, 1, 2]⟩ : ByteArray) ++ (ZipW.numsB 2 [20] ++ (ZipW.commonB x ++ (ZipW.numsB 2 [0, 0, 0] ++ strOfNums (lowL 0 4)))))) (C := ZipW.namesB x ++ r2) (by rw [hs2]; unfold partB; simp only [nums_cons 4, nums_nil, ZipW.app_nil, ZipW.app_assoc]) (by simp only [ByteArray.size_append, pk12_s, s20, cs, s000, low_sz]; omega) (by simp only [ByteArray.size_append, pk12_s, s20, cs, s000, low_sz]; omega)
  have y4 : s.extract (c + 46) (c + 72 + x.f0.size) = ZipW.namesB x := ext_at (A := C ++ ((⟨#[80, 75, 1, 2]⟩ : ByteArray) ++ (ZipW.numsB 2 [20] ++ (ZipW.commonB x ++ (ZipW.numsB 2 [0, 0, 0] ++ ZipW.numsB 4 [0, (a : Int)]))))) (C := r2) (by rw [hs2]; unfold partB; simp only [ZipW.app_assoc]) (by simp only [ByteArray.size_append, pk12_s, s20, cs, s000, s40]; omega) (by simp only [ByteArray.size_append, pk12_s, s20, cs, s000, s40, ns]; omega)
  have hn := n4 a (by omega) hq
  -- the numbers
  have e3 : wrap64 ((a : Int) + ((56 + x.f0.size : Nat) : Int)) = ((a + 56 + x.f0.size : Nat) : Int) := by unfold wrap64; omega
  have e4 : wrap64 (((a + 56 + x.f0.size : Nat) : Int) + (x.f6.size : Int)) = ((a + 56 + x.f0.size + x.f6.size : Nat) : Int) := by unfold wrap64; omega
  have e5 : wrap64 ((c : Int) + 46) = ((c + 46 : Nat) : Int) := by unfold wrap64; omega
  have e6 : wrap64 (((c + 46 : Nat) : Int) + (x.f0.size : Int)) = ((c + 46 + x.f0.size : Nat) : Int) := by unfold wrap64; omega
  have e7 : wrap64 (((c + 46 + x.f0.size : Nat) : Int) + 26) = ((c + 72 + x.f0.size : Nat) : Int) := by unfold wrap64; omega
  have e9 : wrap64 ((a : Int) + 4) = ((a + 4 : Nat) : Int) := by unfold wrap64; omega
  have e10 : wrap64 ((a : Int) + 30) = ((a + 30 : Nat) : Int) := by unfold wrap64; omega
  have e11 : wrap64 (((a + 30 : Nat) : Int) + (x.f0.size : Int)) = ((a + 30 + x.f0.size : Nat) : Int) := by unfold wrap64; omega
  have e12 : wrap64 ((c : Int) + 4) = ((c + 4 : Nat) : Int) := by unfold wrap64; omega
  have e13 : wrap64 ((c : Int) + 42) = ((c + 42 : Nat) : Int) := by unfold wrap64; omega
  have e14 : wrap64 ((c : Int) + 6) = ((c + 6 : Nat) : Int) := by unfold wrap64; omega
  have e15 : wrap64 ((c : Int) + 32) = ((c + 32 : Nat) : Int) := by unfold wrap64; omega
  have e16 : wrap64 ((i : Int) + 1) = ((i + 1 : Nat) : Int) := by unfold wrap64; omega
  rw [portagelaw13_ZipParts.j3, if_neg (by decide)]
  simp only [e3, e4, e5, e6, e7, e9, e10, e11, e12, e13, e14, e15, e16, Int.toNat_natCast, x1, x2, x3, x4, x5, y1, y2, y3, y4, hn, pk34_l, pk12_l, Option.bind_some]
  clear x1 x2 x3 x4 x5 y1 y2 y3 y4 hn e3 e4 e5 e6 e7 e9 e10 e11 e12 e13 e14 e15 e16 hs hs2 s20 s000 s40
  repeat rw [if_pos (by first | trivial | omega)]
theorem round (l : List S39) (h : zok l) : ∀ (d i : Nat), i + d = l.length → ∀ K, 2 * d + 60 ≤ K → portagelaw13_ZipParts.l0 K (ZipW.zipL l) ((ZipW.frontTo l l.length).size : Int) ((ZipW.frontTo l i).size : Int) (((ZipW.frontTo l l.length).size + (ZipW.behindTo l i).size : Nat) : Int) (i : Int) l = some true
  | 0, i, hi, K, hK => by
    obtain ⟨q, rfl⟩ : ∃ q, K = q + 1 := ⟨K - 1, by omega⟩
    have hi' : i = l.length := by omega
    subst hi'
    have hz4 : (ZipW.zipL l).size ≤ 4096 := by rw [zipL_size h.1]; exact h.2
    have hz : (ZipW.zipL l).size = (ZipW.frontTo l l.length).size + ((ZipW.behindTo l l.length).size + 22) := by
      rw [zip_three, ByteArray.size_append, ByteArray.size_append, last_size]
    have e8 : wrap64 (((ZipW.zipL l).size : Int) - 22) = (((ZipW.frontTo l l.length).size + (ZipW.behindTo l l.length).size : Nat) : Int) := by
      generalize (ZipW.zipL l).size = z at *
      generalize (ZipW.frontTo l l.length).size = a at *
      generalize (ZipW.behindTo l l.length).size = b at *
      clear hK h hi
      unfold wrap64
      omega
    rw [portagelaw13_ZipParts.l0, if_neg (by omega), if_pos rfl, e8, beq_self_eq_true]
  | d + 1, i, hi, K, hK => by
    obtain ⟨q, rfl⟩ : ∃ q, K = q + 2 := ⟨K - 2, by omega⟩
    have ih := round l h d (i + 1) (by omega) q (by omega)
    have hsm := ZipW.small_of h.1
    have hn := hsm.n
    have ha := hsm.a i (by omega)
    have hh := ZipW.heads_of h.1 i (by omega)
    have hz4 : (ZipW.zipL l).size ≤ 4096 := by rw [zipL_size h.1]; exact h.2
    have hz : (ZipW.zipL l).size = (ZipW.frontTo l l.length).size + ((ZipW.behindTo l l.length).size + 22) := by
      rw [zip_three, ByteArray.size_append, ByteArray.size_append, last_size]
    obtain ⟨r, hr⟩ := front_cut l i (by omega)
    obtain ⟨r2, hr2⟩ := behind_cut l i (by omega)
    obtain ⟨u, hu⟩ := ZipW.front_more l (i + 1) (l.length - (i + 1))
    obtain ⟨v, hv⟩ := behind_more l (i + 1) (l.length - (i + 1))
    rw [show i + 1 + (l.length - (i + 1)) = l.length from by omega, ZipW.front_next] at hu
    rw [show i + 1 + (l.length - (i + 1)) = l.length from by omega, behind_next] at hv
    rw [ZipW.front_next, behind_next] at ih
    generalize hx : rd_T39 l (i : Int) = x at *
    have pf := partF_size x hh
    have pb := partB_size x (ZipW.frontTo l i).size hh
    have hus := congrArg ByteArray.size hu
    have hvs := congrArg ByteArray.size hv
    simp only [ByteArray.size_append, pf, pb] at hus hvs ih
    have he := entry (ZipW.zipL l) l (ZipW.frontTo l l.length).size (ZipW.frontTo l i).size ((ZipW.frontTo l l.length).size + (ZipW.behindTo l i).size) i ((ZipW.frontTo l l.length).size + (ZipW.behindTo l l.length).size) x q (by omega) r r2 (ZipW.frontTo l i) (ZipW.frontTo l l.length ++ ZipW.behindTo l i) hr rfl hr2 (by rw [ByteArray.size_append]) hh ha.1 ha.2 (by omega) (by omega) (by omega) (by omega) (by omega)
    have e1 : wrap64 (30 + (x.f0.size : Int)) = ((30 + x.f0.size : Nat) : Int) := by have := ha.1; clear ih he hu hv hr hr2 hus hvs; unfold wrap64; omega
    have e2 : wrap64 (((30 + x.f0.size : Nat) : Int) + 26) = ((56 + x.f0.size : Nat) : Int) := by have := ha.1; clear ih he hu hv hr hr2 hus hvs; unfold wrap64; omega
    rw [portagelaw13_ZipParts.l0, if_pos (by omega), if_pos (by omega), hx, e1, e2]
    generalize hA : (ZipW.frontTo l i).size = a at *
    generalize hB : (ZipW.behindTo l i).size = b at *
    generalize hF : (ZipW.frontTo l l.length).size = F at *
    generalize hG : (ZipW.behindTo l l.length).size = B at *
    generalize hZ : (ZipW.zipL l).size = z at *
    generalize hN : x.f0.size = n0 at *
    generalize hM : x.f6.size = n6 at *
    have e3 : wrap64 ((a : Int) + ((56 + n0 : Nat) : Int)) = ((a + 56 + n0 : Nat) : Int) := by clear ih he hu hv hr hr2; unfold wrap64; omega
    have e4 : wrap64 (((a + 56 + n0 : Nat) : Int) + (n6 : Int)) = ((a + 56 + n0 + n6 : Nat) : Int) := by clear ih he hu hv hr hr2; unfold wrap64; omega
    have e5 : wrap64 (((F + b : Nat) : Int) + 46) = ((F + b + 46 : Nat) : Int) := by clear ih he hu hv hr hr2; unfold wrap64; omega
    have e6 : wrap64 (((F + b + 46 : Nat) : Int) + (n0 : Int)) = ((F + b + 46 + n0 : Nat) : Int) := by clear ih he hu hv hr hr2; unfold wrap64; omega
    have e7 : wrap64 (((F + b + 46 + n0 : Nat) : Int) + 26) = ((F + b + 72 + n0 : Nat) : Int) := by clear ih he hu hv hr hr2; unfold wrap64; omega
    have e8 : wrap64 ((z : Int) - 22) = ((F + B : Nat) : Int) := by clear ih he hu hv hr hr2; unfold wrap64; omega
    rw [e3, e4, if_neg (by omega), e5, e6, e7, e8, decide_eq_false (by omega), he]
    have f1 : a + (30 + n0 + 26 + n6) = a + 56 + n0 + n6 := by omega
    have f2 : F + (b + (46 + n0 + 26)) = F + b + 72 + n0 := by omega
    rw [f1, f2] at ih
    exact ih
end ZipParts
open ZipParts in
theorem ZipParts : portagelaw13_ZipParts.Pure := by
  intro l S
  have hl : l.length ≤ 9223372036854775807 := by have h1 : l.length * 104 ≤ 140737488351232 := S.1; omega
  refine ⟨400, ?_⟩
  unfold portagelaw13_ZipParts.f
  rw [awake_true (by decide), Option.bind_some, if_pos rfl, zput hl, Option.bind_some, znum, Option.bind_some]
  by_cases h : zok l
  · have hn := (ZipW.small_of h.1).n
    have hsz := zipL_size h.1
    have hz4 : (ZipW.zipL l).size ≤ 4096 := by rw [hsz]; exact h.2
    have hz : (ZipW.zipL l).size = (ZipW.frontTo l l.length).size + ((ZipW.behindTo l l.length).size + 22) := by
      rw [zip_three, ByteArray.size_append, ByteArray.size_append, last_size]
    rw [zput_yes h]
    dsimp only
    rw [if_pos rfl, if_neg (by omega), zsize hl, Option.bind_some, zsize_yes h.1, ← hsz, bne_self_eq_false]
    have hlast : (ZipW.zipL l).extract ((ZipW.frontTo l l.length).size + (ZipW.behindTo l l.length).size) (ZipW.zipL l).size = lastB l :=
      ext_at (A := ZipW.frontTo l l.length ++ ZipW.behindTo l l.length) (C := ⟨#[]⟩) (by rw [zip_three, ZipW.app_nil, ZipW.app_assoc]) (by rw [ByteArray.size_append]) (by rw [ByteArray.size_append, last_size]; omega)
    have s4 : (ZipW.numsB 2 [0, 0, (l.length : Int), (l.length : Int)]).size = 8 := by rw [ZipW.numsB_size]; rfl
    have z1 : (lastB l).extract 16 20 = strOfNums (lowL ((ZipW.frontTo l l.length).size : Int) 4) := ext_at (A := (⟨#[80, 75, 5, 6]⟩ : ByteArray) ++ (ZipW.numsB 2 [0, 0, (l.length : Int), (l.length : Int)] ++ strOfNums (lowL ((ZipW.behindTo l l.length).size : Int) 4))) (C := ZipW.numsB 2 [0]) (by unfold lastB; simp only [nums_cons 4, nums_nil, ZipW.app_nil, ZipW.app_assoc]) (by simp only [ByteArray.size_append, pk56_s, s4, low_sz]) (by simp only [ByteArray.size_append, pk56_s, s4, low_sz])
    have z2 : (lastB l).extract 12 16 = strOfNums (lowL ((ZipW.behindTo l l.length).size : Int) 4) := ext_at (A := (⟨#[80, 75, 5, 6]⟩ : ByteArray) ++ ZipW.numsB 2 [0, 0, (l.length : Int), (l.length : Int)]) (C := strOfNums (lowL ((ZipW.frontTo l l.length).size : Int) 4) ++ ZipW.numsB 2 [0]) (by unfold lastB; simp only [nums_cons 4, nums_nil, ZipW.app_nil, ZipW.app_assoc]) (by simp only [ByteArray.size_append, pk56_s, s4]) (by simp only [ByteArray.size_append, pk56_s, s4, low_sz])
    have z3 : (lastB l).extract 8 10 = strOfNums (lowL (l.length : Int) 2) := ext_at (A := (⟨#[80, 75, 5, 6]⟩ : ByteArray) ++ (strOfNums (lowL 0 2) ++ strOfNums (lowL 0 2))) (C := strOfNums (lowL (l.length : Int) 2) ++ (ZipW.numsB 4 [((ZipW.behindTo l l.length).size : Int), ((ZipW.frontTo l l.length).size : Int)] ++ ZipW.numsB 2 [0])) (by unfold lastB; rw [nums_cons 2 0, nums_cons 2 0, nums_cons 2 (l.length : Int), nums_cons 2 (l.length : Int), nums_nil, ZipW.app_nil]; simp only [ZipW.app_assoc]) (by simp only [ByteArray.size_append, pk56_s, low_sz]) (by simp only [ByteArray.size_append, pk56_s, low_sz])
    have z4 : (lastB l).extract 10 12 = strOfNums (lowL (l.length : Int) 2) := ext_at (A := (⟨#[80, 75, 5, 6]⟩ : ByteArray) ++ (strOfNums (lowL 0 2) ++ (strOfNums (lowL 0 2) ++ strOfNums (lowL (l.length : Int) 2)))) (C := ZipW.numsB 4 [((ZipW.behindTo l l.length).size : Int), ((ZipW.frontTo l l.length).size : Int)] ++ ZipW.numsB 2 [0]) (by unfold lastB; rw [nums_cons 2 0, nums_cons 2 0, nums_cons 2 (l.length : Int), nums_cons 2 (l.length : Int), nums_nil, ZipW.app_nil]; simp only [ZipW.app_assoc]) (by simp only [ByteArray.size_append, pk56_s, low_sz]) (by simp only [ByteArray.size_append, pk56_s, low_sz])
    have hr := round l h l.length 0 (by omega) 398 (by omega)
    have e8 : wrap64 (((ZipW.zipL l).size : Int) - 22) = (((ZipW.frontTo l l.length).size + (ZipW.behindTo l l.length).size : Nat) : Int) := by
      generalize (ZipW.zipL l).size = z at *
      generalize (ZipW.frontTo l l.length).size = a at *
      generalize (ZipW.behindTo l l.length).size = b at *
      clear hr hlast z1 z2 z3 z4 s4 hsz
      unfold wrap64
      omega
    have m1 := n4 (ZipW.frontTo l l.length).size (by omega) (k := 399) (by decide)
    have m2 := n4 (ZipW.behindTo l l.length).size (by omega) (k := 399) (by decide)
    have m3 := n2 l.length (by omega) (k := 399) (by decide)
    have hls := last_size l
    rw [portagelaw13_ZipParts.j0, if_neg (by decide), e8, Int.toNat_natCast, hlast, if_pos (by omega), if_pos (by omega), if_pos (by decide), if_pos (by rw [hls]; decide), z1, m1, Option.bind_some, if_pos (by decide), if_pos (by rw [hls]; decide), z3, m3, Option.bind_some, if_pos rfl, if_pos (by decide), if_pos (by rw [hls]; decide), z4, m3, Option.bind_some, if_pos rfl, if_pos (by decide), if_pos (by rw [hls]; decide), z2, m2, Option.bind_some]
    have e9 : wrap64 ((wrap64 (((ZipW.frontTo l l.length).size : Int) + ((ZipW.behindTo l l.length).size : Int))) + 22) = ((ZipW.zipL l).size : Int) := by
      generalize (ZipW.zipL l).size = z at *
      generalize (ZipW.frontTo l l.length).size = a at *
      generalize (ZipW.behindTo l l.length).size = b at *
      clear hr hlast z1 z2 z3 z4 s4 hsz m1 m2 m3 e8
      unfold wrap64
      omega
    rw [e9, bne_self_eq_false, portagelaw13_ZipParts.j1, if_neg (by decide)]
    rw [ZipW.frontTo, ZipW.behindTo] at hr
    exact hr
  · have z := zput_no h
    rw [if_neg z.2, z.1]
    decide +kernel
end Go.Proofs.YtneogampbohfnaaDoor.Pure
