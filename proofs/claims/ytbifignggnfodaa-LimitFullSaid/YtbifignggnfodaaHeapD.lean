/- container/heap's up, Init, Pop and Push over trees. -/
import Derived.Test.YtbifignggnfodaaHeapC
import Derived.Test.YtbifignggnfodaaHeapP
namespace Go.Proofs.Ytbifignggnfodaa.HeapA
open Go.RowKit Go.Proofs.YtbifignggnfodaaW.PrintWords Go.Proofs.YtbifignggnfodaaW.PrintLast Go.Proofs.YtbifignggnfodaaW.PrintMore Go.Proofs.Ytbifignggnfodaa.HeapM
set_option linter.unusedVariables false
set_option linter.unusedSimpArgs false
theorem up_out {k : Nat} {ts : List T} {j : Nat} (hk : j < k) (h : (j - 1) / 2 = j ∨ lt (HeapM.get ts j) (HeapM.get ts ((j - 1) / 2)) = false) : up k ts j = ts := by
  obtain ⟨m, rfl⟩ : ∃ m, k = m + 1 := ⟨k - 1, by omega⟩
  rw [up]
  by_cases h1 : (j - 1) / 2 = j
  · rw [if_pos h1]
  · rw [if_neg h1]
    rcases h with h | h
    · exact absurd h h1
    · rw [if_neg (by rw [h]; decide)]
theorem up_step {k : Nat} {ts : List T} {j : Nat} (h1 : ¬ (j - 1) / 2 = j) (h : lt (HeapM.get ts j) (HeapM.get ts ((j - 1) / 2)) = true) : up (k + 1) ts j = up k (swap ts ((j - 1) / 2) j) ((j - 1) / 2) := by
  rw [up, if_neg h1, if_pos h]
theorem tdiv2 (q : Nat) : ((q : Int) - 1).tdiv 2 = (((q - 1) / 2 : Nat) : Int) := by
  cases q with
  | zero => rfl
  | succ q => rw [show ((q + 1 : Nat) : Int) - 1 = ((q : Nat) : Int) by omega]; rfl
/-- What up leaves. -/
def Upped (w : World) (base ob hb : Nat) (R : List T) (e : Ending) (w' : World) : Prop := ∃ (bs' : List Nat), e = .returned (.tuple #[]) ∧ HeapAt w' base ob hb bs' R ∧ Kept w w' (Ty w) ∧ Below base w w'
set_option maxHeartbeats 8000000 in
set_option maxRecDepth 100000 in
theorem up_any (w : World) (base ob hb : Nat) (bs : List Nat) (ts : List T) (h : HeapAt w base ob hb bs ts) (j K : Nat) (hj : j < ts.length) (hmax : ts.length ≤ 1000) (hK : j < K) :
    Calls Try.prog 102 #[.iface 122 (.pointer (some ⟨hb, 0, none⟩)), .int .i64 (j : Int)] w (Upped w base ob hb (up K ts j)) := by
  have HH := Aside0.mk h
  have HM := Aside0.mk hmax
  have HK0 := Aside0.mk hK
  have HJ := Aside0.mk hj
  obtain ⟨R, hR⟩ : ∃ R, up K ts j = R := ⟨_, rfl⟩
  rw [hR]
  have HR := Aside0.mk hR
  clear h hj hmax hK hR
  go_enter Try.func102, Try.ntmps102
  go_wp2_with fail
  go_loopw [1] (fun v1 wr => ∃ (q k : Nat) (bs' : List Nat) (ts' : List T), v1 = .int .i64 (q : Int) ∧ Aside0 (q < ts.length) ∧ Aside0 (up k ts' q = R) ∧ Aside0 (q < k) ∧ Aside0 (ts'.length = ts.length) ∧ Aside0 (HeapAt wr base ob hb bs' ts') ∧ Aside0 (Kept w wr (Ty w)) ∧ Aside0 (Below base w wr)) (fun v1 _ => (intOf v1).toNat)
  case atStart => exact ⟨j, K, bs, ts, rfl, HJ, HR, HK0, ⟨rfl⟩, HH, ⟨Kept.refl w _⟩, ⟨Below.refl base w⟩⟩
  case round =>
    clear HR HK0 HH HJ
    obtain ⟨q, k, bs', ts', rfl, HQ, HR, HKq, HL, HH, HKp, HB⟩ := hrel
    have hm1 := HM.out
    have hq1 : (q : Int) < 1000 := by have := HQ.out; omega
    obtain ⟨⟨v, hv, ht⟩, hge⟩ := HH.out
    have hl := HL.out
    obtain ⟨g, cap, rfl, hg0, hg1⟩ := ht.form (by have := HQ.out; omega)
    have HT := Aside0.mk ht
    have HV := Aside0.mk hv
    have hcv : wr.cell? ⟨hb, 0, none⟩ = some (.slice (some ⟨g, 0, none⟩) ts'.length cap) := (blk_cell hv 0).trans rfl
    have hmL : ∀ W : World, W.cell? ⟨hb, 0, none⟩ = some (.slice (some ⟨g, 0, none⟩) ts'.length cap) → (method 256 122 (.pointer (some ⟨hb, 0, none⟩)) "Less").run Try.prog W = .ok (120, .slice (some ⟨g, 0, none⟩) ts'.length cap) W := fun W h => meth_less hb W _ _ _ h
    have hmS : ∀ W : World, W.cell? ⟨hb, 0, none⟩ = some (.slice (some ⟨g, 0, none⟩) ts'.length cap) → (method 256 122 (.pointer (some ⟨hb, 0, none⟩)) "Swap").run Try.prog W = .ok (121, .slice (some ⟨g, 0, none⟩) ts'.length cap) W := fun W h => meth_swap hb W _ _ _ h
    obtain ⟨p, hp⟩ : ∃ p, (q - 1) / 2 = p := ⟨_, rfl⟩
    have hq : ((q : Int) - 1).tdiv 2 = (p : Int) := by rw [tdiv2, hp]
    have hpq : p ≤ q := by omega
    have hp0 : (0 : Int) ≤ (p : Int) := by omega
    have hq0 : (0 : Int) ≤ (q : Int) := by omega
    have hp1 : (p : Int) < 1000 := by omega
    clear ht hv hge hl hg0 hg1
    by_cases h1 : (q - 1) / 2 = q
    · have hbe : ((p : Int) == (q : Int)) = true := by rw [← hp, h1]; exact beq_self_eq_true _
      have HR2 := Aside0.mk (up_out (ts := ts') HKq.out (.inl h1))
      clear h1 hp
      go_wp2_with fail
      first | go_end0 | ((try simp only [Exit.inBlock, Exit.then]); refine bodyPost_ret (results_none rfl _ _ _) rfl ?_)
      exact ⟨bs', rfl, by rw [← HR.out, HR2.out]; exact HH.out, HKp.out, HB.out⟩
    · have hbe : ((p : Int) == (q : Int)) = false := beq_eq_false_iff_ne.mpr (by omega)
      have H1 := Aside0.mk h1
      have HP := Aside0.mk hp
      have hlt : p < q := by omega
      cases h2 : lt (HeapM.get ts' q) (HeapM.get ts' p) with
      | true =>
        have H2 := Aside0.mk h2
        clear h1 h2 hp
        go_wp2_with (first | (go_at_call 120; (with_reducible refine (less_int _ base ob g cap bs' ts' _ _ q p (by omega) (by omega) (by first | exact HT.out | exact HT.out.drewN _) (by have := HL.out; have := HQ.out; omega) (by have := HL.out; have := HQ.out; omega) true H2.out).mono ?_); rintro e w1 ⟨rfl, ⟨nd, rfl⟩⟩) | (go_at_call 121; (with_reducible refine (swap_int _ base ob g cap bs' ts' _ _ p q (by omega) (by omega) (by first | exact HT.out | exact HT.out.drewN _) (by have := HL.out; have := HQ.out; omega) (by have := HL.out; have := HQ.out; omega)).mono ?_); intro e w1 hsw; have he := hsw.choose_spec.1; subst he; have HS := Aside0.mk hsw; clear hsw))
        obtain ⟨bs2, k1, k2, k3⟩ := down_round HS.out HT.out HV.out HH.out.ge HKp.out HB.out
        obtain ⟨k', rfl⟩ : ∃ k', k = k' + 1 := ⟨k - 1, by have := HKq.out; omega⟩
        have hR2 : up k' (swap ts' p q) p = R := by
          have h1 := H1.out
          have hp := HP.out
          subst hp
          rw [← up_step h1 H2.out]
          exact HR.out
        exact ⟨⟨p, k', bs2, swap ts' p q, rfl, ⟨by have := HQ.out; omega⟩, ⟨hR2⟩, ⟨by have := HKq.out; omega⟩, ⟨by rw [swap_length]; exact HL.out⟩, ⟨k1⟩, ⟨k2⟩, ⟨k3⟩⟩, by show (p : Int).toNat < (q : Int).toNat; omega⟩
      | false =>
        have H2 := Aside0.mk h2
        clear h1 h2 hp
        go_wp2_with (go_at_call 120; (with_reducible refine (less_int _ base ob g cap bs' ts' _ _ q p (by omega) (by omega) (by first | exact HT.out | exact HT.out.drewN _) (by have := HL.out; have := HQ.out; omega) (by have := HL.out; have := HQ.out; omega) false H2.out).mono ?_); rintro e w1 ⟨rfl, ⟨nd, rfl⟩⟩)
        first | go_end0 | ((try simp only [Exit.inBlock, Exit.then]); refine bodyPost_ret (results_none rfl _ _ _) rfl ?_)
        have hR2 : up k ts' q = ts' := up_out HKq.out (.inr (by rw [HP.out]; exact H2.out))
        exact ⟨bs', rfl, by rw [← HR.out, hR2]; exact HH.out.drewN _, Kept.drewN HKp.out _, pw_below_drewN HB.out _⟩
theorem Trees.slice {W : World} {base ob : Nat} {v : Value} {bs : List Nat} {ts : List T} (h : Trees W base ob v bs ts) : ∃ A c, v = .slice A ts.length c := by
  rcases h.row.2 with ⟨hv, hn⟩ | ⟨g, cap, cur, hv, _⟩
  · exact ⟨none, 0, by rw [hv, hn]⟩
  · exact ⟨_, _, hv⟩
theorem down_int (w : World) (base ob hb : Nat) (bs : List Nat) (ts : List T) (h : HeapAt w base ob hb bs ts) (x y : Int) (i n K : Nat) (hx : x = (i : Int)) (hy : y = (n : Int)) (hn : n ≤ ts.length) (hi : i < 1000) (hmax : ts.length ≤ 1000) (hK : n ≤ K + i) :
    Calls Try.prog 101 #[.iface 122 (.pointer (some ⟨hb, 0, none⟩)), .int .i64 x, .int .i64 y] w (Downed w base ob hb (down K ts i n)) := by
  subst hx hy
  exact down_any w base ob hb bs ts h i n K hn hi hmax hK
theorem up_int (w : World) (base ob hb : Nat) (bs : List Nat) (ts : List T) (h : HeapAt w base ob hb bs ts) (x : Int) (j K : Nat) (hx : x = (j : Int)) (hj : j < ts.length) (hmax : ts.length ≤ 1000) (hK : j < K) :
    Calls Try.prog 102 #[.iface 122 (.pointer (some ⟨hb, 0, none⟩)), .int .i64 x] w (Upped w base ob hb (up K ts j)) := by
  subst hx
  exact up_any w base ob hb bs ts h j K hj hmax hK
set_option maxHeartbeats 8000000 in
set_option maxRecDepth 100000 in
/-- heap.Init -/
theorem init_any (w : World) (base ob hb : Nat) (bs : List Nat) (ts : List T) (h : HeapAt w base ob hb bs ts) (hmax : ts.length ≤ 1000) :
    Calls Try.prog 93 #[.iface 122 (.pointer (some ⟨hb, 0, none⟩))] w (Upped w base ob hb (init ts)) := by
  have HH := Aside0.mk h
  have HM := Aside0.mk hmax
  obtain ⟨R, hR⟩ : ∃ R, init ts = R := ⟨_, rfl⟩
  rw [hR]
  have HR := Aside0.mk (show initFrom ts ts.length (ts.length / 2) = R from hR)
  obtain ⟨⟨v, hv, ht⟩, hge⟩ := h
  obtain ⟨A, c, rfl⟩ := ht.slice
  have hcv : w.cell? ⟨hb, 0, none⟩ = some (.slice A ts.length c) := (blk_cell hv 0).trans rfl
  have hmN : (method 256 122 (.pointer (some ⟨hb, 0, none⟩)) "Len").run Try.prog w = .ok (94, .slice A ts.length c) w := meth_len hb w _ _ _ hcv
  have h0 : (0 : Int) ≤ (ts.length : Int) := by omega
  have h1 : (ts.length : Int) ≤ 1000 := by omega
  obtain ⟨n, hn⟩ : ∃ n, ts.length = n := ⟨_, rfl⟩
  rw [hn] at hmN h0 h1
  have hq : (n : Int).tdiv 2 = ((n / 2 : Nat) : Int) := rfl
  obtain ⟨m, hm⟩ : ∃ m, n / 2 = m := ⟨_, rfl⟩
  rw [hm] at hq
  have hm0 : (0 : Int) ≤ (m : Int) := by omega
  have hm1 : (m : Int) ≤ 1000 := by omega
  have HN := Aside0.mk hn
  have HMM := Aside0.mk hm
  clear hR hmax hv ht hge hcv hn hm
  go_enter Try.func93, Try.ntmps93
  go_wp2_with (go_at_call 94; (with_reducible refine (len_any _ A n c).mono ?_); rintro e w1 ⟨rfl, rfl⟩)
  go_loopw [3] (fun v3 wr => ∃ (q : Nat) (bs' : List Nat) (ts' : List T), v3 = .int .i64 ((q : Int) - 1) ∧ Aside0 (initFrom ts' n q = R) ∧ Aside0 (q ≤ 1000) ∧ Aside0 (ts'.length = n) ∧ Aside0 (HeapAt wr base ob hb bs' ts') ∧ Aside0 (Kept w wr (Ty w)) ∧ Aside0 (Below base w wr)) (fun v3 _ => (intOf v3 + 1).toNat)
  case atStart => exact ⟨m, bs, ts, rfl, ⟨by rw [← HR.out, HN.out, HMM.out]⟩, ⟨by omega⟩, HN, HH, ⟨Kept.refl w _⟩, ⟨Below.refl base w⟩⟩
  case round =>
    have HM2 := Aside0.mk (show n ≤ 1000 by omega)
    clear HR HH hq hm0 hm1 HMM HN hmN HM
    obtain ⟨q, bs', ts', rfl, HR, HQ, HL, HH, HKp, HB⟩ := hrel
    cases q with
    | zero =>
      have hd : decide (((0 : Nat) : Int) - 1 ≥ 0) = false := by decide
      go_wp2_with fail
      first | go_end0 | ((try simp only [Exit.inBlock, Exit.then]); refine bodyPost_ret (results_none rfl _ _ _) rfl ?_)
      exact ⟨bs', rfl, by rw [← HR.out]; exact HH.out, HKp.out, HB.out⟩
    | succ q =>
      have e : ((q + 1 : Nat) : Int) - 1 = (q : Int) := by omega
      rw [e]
      have hd : decide ((q : Int) ≥ 0) = true := decide_eq_true (by omega)
      have hd2 : decide (0 ≤ (q : Int)) = true := decide_eq_true (by omega)
      have hq1 : (q : Int) ≤ 1000 := by have := HQ.out; omega
      have hq0 : (0 : Int) ≤ (q : Int) := by omega
      clear e
      go_wp2_with (go_at_call 101; (with_reducible refine (down_int _ base ob hb bs' ts' (by first | exact HH.out | exact HH.out.drewN _) _ _ q n n (by omega) (by omega) (by have := HL.out; omega) (by have := HQ.out; omega) (by have := HL.out; have := HM2.out; omega) (by omega)).mono ?_); rintro e w1 ⟨r, bs2, rfl, k1, k2, k3⟩; have K1 := Aside0.mk k1; have K2 := Aside0.mk k2; have K3 := Aside0.mk k3; clear k1 k2 k3)
      exact ⟨⟨q, bs2, down n ts' q n, rfl, HR, ⟨by have := HQ.out; omega⟩, ⟨by rw [down_length]; exact HL.out⟩, K1, ⟨fr_trans HKp.out K2.out⟩, ⟨HB.out.trans K3.out⟩⟩, by show ((q : Int) - 1 + 1).toNat < ((q : Int) + 1).toNat; omega⟩
/-- What heap.Pop leaves. -/
def HPopped (w : World) (base ob hb : Nat) (t : T) (R : List T) (e : Ending) (w' : World) : Prop := ∃ (b : Nat) (bs' : List Nat), e = .returned (.iface 118 (ptr b)) ∧ HeapAt w' base ob hb bs' R ∧ TreeAt w' base ob b t ∧ Kept w w' (Ty w) ∧ Below base w w'
theorem hb_ty {w : World} {base ob hb : Nat} {bs : List Nat} {ts : List T} (h : HeapAt w base ob hb bs ts) : Ty w hb := by
  obtain ⟨⟨v, hv, _⟩, _⟩ := h
  exact ⟨_, .inl hv⟩
set_option maxHeartbeats 8000000 in
set_option maxRecDepth 100000 in
theorem pop_any (w : World) (base ob hb : Nat) (bs : List Nat) (ts : List T) (h : HeapAt w base ob hb bs ts) (h0 : 0 < ts.length) (hmax : ts.length ≤ 1000) :
    Calls Try.prog 95 #[.iface 122 (.pointer (some ⟨hb, 0, none⟩))] w (HPopped w base ob hb (HeapM.pop ts).1 (HeapM.pop ts).2) := by
  have HH := Aside0.mk h
  obtain ⟨n, hn⟩ : ∃ n, ts.length = n + 1 := ⟨ts.length - 1, by omega⟩
  obtain ⟨⟨v, hv, ht⟩, hge⟩ := h
  obtain ⟨g, c, rfl, hg0, hg1⟩ := ht.form h0
  have HT := Aside0.mk ht
  have HV := Aside0.mk hv
  have hcv : w.cell? ⟨hb, 0, none⟩ = some (.slice (some ⟨g, 0, none⟩) ts.length c) := (blk_cell hv 0).trans rfl
  have hmN : (method 256 122 (.pointer (some ⟨hb, 0, none⟩)) "Len").run Try.prog w = .ok (94, .slice (some ⟨g, 0, none⟩) ts.length c) w := meth_len hb w _ _ _ hcv
  have hmS : ∀ W : World, W.cell? ⟨hb, 0, none⟩ = some (.slice (some ⟨g, 0, none⟩) ts.length c) → (method 256 122 (.pointer (some ⟨hb, 0, none⟩)) "Swap").run Try.prog W = .ok (121, .slice (some ⟨g, 0, none⟩) ts.length c) W := fun W h => meth_swap hb W _ _ _ h
  have hmP := fun W => meth_pop hb W
  have h1 : ((ts.length : Nat) : Int) - 1 = (n : Int) := by omega
  have h2 : (0 : Int) ≤ (n : Int) := by omega
  have h3 : (n : Int) ≤ 1000 := by omega
  have h4 : (0 : Int) ≤ (ts.length : Int) := by omega
  have h5 : (ts.length : Int) ≤ 1000 := by omega
  have HN := Aside0.mk hn
  have HG := Aside0.mk hge
  clear hmax hv ht hge hn h0 hg0 hg1
  go_enter Try.func95, Try.ntmps95
  go_wp2_with (first
    | (go_at_call 94; (with_reducible refine (len_any _ (some ⟨g, 0, none⟩) ts.length c).mono ?_); rintro e w1 ⟨rfl, rfl⟩)
    | (go_at_call 121; (with_reducible refine (swap_int _ base ob g c bs ts _ _ 0 n (by omega) (by omega) (by first | exact HT.out | exact HT.out.drewN _) (by have := HN.out; omega) (by have := HN.out; omega)).mono ?_); intro e w1 hsw; have he := hsw.choose_spec.1; subst he; obtain ⟨bs1, s1, s2, s3⟩ := swapped_heap hsw HV.out (own_typed HT.out.row g rfl) HG.out; have S1 := Aside0.mk s1; have S2 := Aside0.mk s2; have S3 := Aside0.mk s3; clear hsw s1 s2 s3)
    | (go_at_call 101; (with_reducible refine (down_int _ base ob hb bs1 (swap ts 0 n) (by first | exact S1.out | exact S1.out.drewN _) _ _ 0 n ts.length (by omega) (by omega) (by rw [swap_length]; have := HN.out; omega) (by omega) (by rw [swap_length]; omega) (by have := HN.out; omega)).mono ?_); rintro e w2 ⟨r, bs2, rfl, k1, k2, k3⟩; have K1 := Aside0.mk k1; have K2 := Aside0.mk k2; have K3 := Aside0.mk k3; clear k1 k2 k3)
    | (go_at_call 122; (with_reducible refine (tpop_any _ base ob hb bs2 (down ts.length (swap ts 0 n) 0 n) (by first | exact K1.out | exact K1.out.drewN _) (by rw [down_length, swap_length]; have := HN.out; omega) (by rw [down_length, swap_length]; omega)).mono ?_); rintro e w3 ⟨rfl, p1, p2, p3, p4⟩; have P1 := Aside0.mk p1; have P2 := Aside0.mk p2; have P3 := Aside0.mk p3; have P4 := Aside0.mk p4; clear p1 p2 p3 p4))
  go_ret
  have e1 : (down ts.length (swap ts 0 n) 0 n).length - 1 = n := by rw [down_length, swap_length, HN.out]; rfl
  have q1 := P1.out
  have q2 := P2.out
  have e2 : (HeapM.pop ts).1 = HeapM.get (down ts.length (swap ts 0 n) 0 n) n := by unfold HeapM.pop; rw [show ts.length - 1 = n by have := HN.out; omega]
  have e3 : (HeapM.pop ts).2 = (down ts.length (swap ts 0 n) 0 n).take n := by unfold HeapM.pop; rw [show ts.length - 1 = n by have := HN.out; omega]
  rw [e1] at q1 q2
  rw [e1, e2, e3]
  exact ⟨_, _, rfl, q1, q2, fr_trans (fr_trans S2.out K2.out) (P3.out.mono fun k e => by rw [e]; exact hb_ty K1.out), (S3.out.trans K3.out).trans P4.out⟩
set_option maxHeartbeats 8000000 in
set_option maxRecDepth 100000 in
theorem push_any (w : World) (base ob hb b : Nat) (bs : List Nat) (ts : List T) (t : T) (h : HeapAt w base ob hb bs ts) (hb0 : TreeAt w base ob b t) (hmax : ts.length < 1000) :
    Calls Try.prog 96 #[.iface 122 (.pointer (some ⟨hb, 0, none⟩)), .iface 118 (.pointer (some ⟨b, 0, none⟩))] w (Upped w base ob hb (HeapM.push ts t)) := by
  have HH := Aside0.mk h
  have HB := Aside0.mk hb0
  have hmP := fun W => meth_push hb W
  have hl : (ts ++ [t]).length = ts.length + 1 := by simp
  have HL := Aside0.mk hl
  have h1 : (ts.length : Int) < 1000 := by omega
  have h0 : (0 : Int) ≤ (ts.length : Int) := by omega
  clear h hb0 hl
  go_enter Try.func96, Try.ntmps96
  go_wp2_with (first
    | (go_at_call 123; (with_reducible refine (tpush_any _ base ob hb b bs ts t (by first | exact HH.out | exact HH.out.drewN _) HB.out (by omega)).mono ?_); rintro e w1 ⟨rfl, p1, p2, v0, p3, p4⟩; obtain ⟨⟨v, hv, ht⟩, hge⟩ := p1; obtain ⟨A, c, rfl⟩ := ht.slice; rw [HL.out] at hv; have hmN : (method 256 122 (.pointer (some ⟨hb, 0, none⟩)) "Len").run Try.prog w1 = .ok (94, .slice A (ts.length + 1) c) w1 := meth_len hb w1 _ _ _ ((blk_cell hv 0).trans rfl); have P1 := Aside0.mk (show HeapAt w1 base ob hb (bs ++ [b]) (ts ++ [t]) from ⟨⟨_, by rw [HL.out]; exact hv, ht⟩, hge⟩); have P2 := Aside0.mk p2; have P3 := Aside0.mk p3; have P4 := Aside0.mk p4; clear p2 p3 p4 hv ht hge)
    | (go_at_call 94; (with_reducible refine (len_any _ A (ts.length + 1) c).mono ?_); rintro e w2 ⟨rfl, rfl⟩)
    | (go_at_call 102; (with_reducible refine (up_int _ base ob hb (bs ++ [b]) (ts ++ [t]) (by first | exact P1.out | exact P1.out.drewN _) _ ts.length (ts.length + 1) (by omega) (by rw [HL.out]; omega) (by rw [HL.out]; omega) (by omega)).mono ?_); rintro e w3 ⟨bs2, rfl, k1, k2, k3⟩; have K1 := Aside0.mk k1; have K2 := Aside0.mk k2; have K3 := Aside0.mk k3; clear k1 k2 k3))
  first | go_end0 | ((try simp only [Exit.inBlock, Exit.then]); refine bodyPost_ret (results_none rfl _ _ _) rfl ?_)
  have t1 : Kept w w1 (Ty w) := P4.out.mono fun k e => by
    rcases e with e | e
    · rw [e]; exact hb_ty HH.out
    · obtain ⟨⟨v, hv, ht⟩, hge⟩ := HH.out
      have := P3.out
      rw [hv] at this
      cases this
      obtain ⟨cs, hc⟩ := own_typed ht.row k e
      exact ⟨cs, .inr hc⟩
  exact ⟨bs2, rfl, K1.out, fr_trans t1 K2.out, P2.out.trans K3.out⟩
end Go.Proofs.Ytbifignggnfodaa.HeapA
