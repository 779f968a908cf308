/- The walk of limit's deep. -/
import Derived.Test.YtbifignggnfodaaHeapE
import Derived.Deep.RegionHeld
namespace Go.Proofs.Ytbifignggnfodaa.HeapA
open Go.RowKit Go.Proofs.YtbifignggnfodaaW.PrintWords Go.Proofs.YtbifignggnfodaaW.PrintLast Go.Proofs.YtbifignggnfodaaW.PrintMore Go.Proofs.Ytbifignggnfodaa.HeapM Go.Proofs.Ytbifignggnfodaa.CC
set_option linter.unusedVariables false
set_option linter.unusedSimpArgs false
set_option maxHeartbeats 8000000 in
set_option maxRecDepth 100000 in
theorem deep_any (A0 : Option Addr) (c0 : Nat) (l : List Int) (w : World) (hr0 : Kd.C (Kd.int .i64) w A0 l.length l) (hc0 : l.length ≤ c0) (hl0 : 0 < l.length) (hmax : l.length ≤ 288) (hx : ∀ x ∈ l, x ≤ 2147483647) :
    Calls Try.prog 86 #[.slice A0 l.length c0] w fun e w' => ∃ v0_ : Value, e = .returned (v0_) ∧ Kd.R (Kd.int .i64) 3 w' w.heap.size (fun _ => True) v0_ (deepM l) ∧ Below w.heap.size w w' := by
  have HR0 := Aside0.mk hr0
  have HC0 := Aside0.mk hc0
  have HM := Aside0.mk hmax
  have HX := Aside0.mk hx
  have HL0 := Aside0.mk hl0
  have hl1 : (0 : Int) < (l.length : Int) := by omega
  have hl2 : (l.length : Int) ≤ 288 := by omega
  clear hr0 hc0 hmax hx hl0
  obtain ⟨i0, hi0, hz0, hz1, hz2⟩ := info_parts info118
  have hmk := print_make 22 3 .i64 8 Try.underlying22 info3 (by decide) l.length (by omega)
  have hO := Aside0.mk (own_made w w.heap.size 3 .i64 l.length (Nat.le_refl _) (by omega))
  go_enter Try.func86, Try.ntmps86
  go_wp2_with fail
  have HS : Aside0 (St w ((w.alloc (Obj.cells (madeCells #[Value.int IntKind.i64 0] l.length) 3)).alloc (Obj.cells #[Value.slice none 0 0] 117)) l.length (List.replicate l.length 0) [] []) := ⟨by
    have hb : Below w.heap.size w ((w.alloc (Obj.cells (madeCells #[Value.int IntKind.i64 0] l.length) 3)).alloc (Obj.cells #[Value.slice none 0 0] 117)) := below_alloc (below_alloc (Below.refl _ _) _) _
    have hh := heap_alloc_new (w.alloc (Obj.cells (madeCells #[Value.int IntKind.i64 0] l.length) 3)) (Obj.cells #[Value.slice none 0 0] 117)
    have e : (w.alloc (Obj.cells (madeCells #[Value.int IntKind.i64 0] l.length) 3)).heap.size = w.heap.size + 1 := by simp
    rw [e] at hh
    exact ⟨hb, ⟨⟨_, hh, ⟨own_nil _ _ _ _, rfl, fun i hi => absurd hi (by simp)⟩⟩, by omega⟩, by simp, pw_own_below hO.out (below_alloc (Below.refl _ _) _)⟩⟩
  generalize ((w.alloc (Obj.cells (madeCells #[Value.int IntKind.i64 0] l.length) 3)).alloc (Obj.cells #[Value.slice none 0 0] 117)) = w1 at HS ⊢
  clear hO hmk
  obtain ⟨ob, hob⟩ : ∃ ob, w.heap.size = ob := ⟨_, rfl⟩
  rw [hob]
  go_loopw [18] (fun v18 wr => ∃ (i : Nat) (bs : List Nat) (ts : List T), v18 = .int .i64 (i : Int) ∧ i ≤ l.length ∧ Aside0 (HeapM.start 0 l = ts ++ HeapM.start i (l.drop i)) ∧ Aside0 (ts.length ≤ i) ∧ Aside0 (St w wr l.length (List.replicate l.length 0) bs ts)) (fun v18 _ => l.length - (intOf v18).toNat)
  case atStart => exact ⟨0, [], [], rfl, Nat.zero_le _, ⟨rfl⟩, ⟨Nat.le_refl _⟩, HS⟩
  case round =>
    obtain ⟨i, bs, ts, rfl, hi, HST, HTI, HS⟩ := hrel
    by_cases hlt : i < l.length
    · have hlt' : (i : Int) < (l.length : Int) := by omega
      obtain ⟨ad, e0, hx⟩ := Kd.at_int HR0.out (i : Int) (by omega) hlt'
      cases e0
      have hx' : wr.cell? (ad.add i) = some (.int .i64 (rd l i)) := by
        have := pw_cell_below HS.out.below hx
        rw [Int.toNat_natCast] at this
        exact this
      clear hx
      obtain ⟨n, hn⟩ : ∃ n, rd l i = n := ⟨_, rfl⟩
      rw [hn] at hx'
      have HN := Aside0.mk hn
      have hn1 : n ≤ 2147483647 := by rw [← hn]; exact HX.out _ (rd_in l i hlt)
      clear hn
      by_cases hp : 0 < n
      · obtain ⟨⟨v, hv, ht⟩, hge⟩ := HS.out.heap
        rw [hob] at hv
        have hcv : wr.cell? ⟨ob + 1, 0, none⟩ = some v := (blk_cell hv 0).trans rfl
        have HV := Aside0.mk hv
        have HT := Aside0.mk ht
        clear hv ht hge
        have hlt2 := HS.out.lt
        rw [hob] at hlt2
        have hw2 := Aside0.mk (show Below wr.heap.size wr ((wr.alloc (.cells #[.int .i64 (i : Int)] 3)).alloc (.cells #[.int .i64 n, .int .i64 (i : Int), .slice (some ⟨wr.heap.size, 0, none⟩) 1 1] 120)) from below_alloc (below_alloc (Below.refl _ _) _) _)
        have htn := Aside0.mk (tree_new wr w.heap.size w.heap.size n (i : Int) (by omega) (by omega))
        obtain ⟨W2, hW2⟩ : ∃ W2, ((wr.alloc (.cells #[.int .i64 (i : Int)] 3)).alloc (.cells #[.int .i64 n, .int .i64 (i : Int), .slice (some ⟨wr.heap.size, 0, none⟩) 1 1] 120)) = W2 := ⟨_, rfl⟩
        rw [hW2] at hw2 htn
        have hsz : Aside0 (W2.heap.size = wr.heap.size + 2) := ⟨by rw [← hW2]; simp⟩
        have HW2 := Aside0.mk hW2
        clear hW2
        have hti : Aside0 ((ts.length + 1) * 8 ≤ 140737488355328) := ⟨by have := HTI.out; omega⟩
        have HV2 : Aside0 (W2.heap[ob + 1]? = some (.cells #[v] 117 (0, 0))) := ⟨(hw2.out.block _ (by omega)).trans HV.out⟩
        go_wp2_with (at_builtin; rw [HW2.out]; refine print_append_cells (w0 := W2) (W := W2) w.heap.size rfl _ _ 117 118 (.pointer none) 1 8 rfl Try.underlying117 info118 rfl (by decide) (by decide) v ts.length (bs.map ptr) [.pointer (some ⟨wr.heap.size + 1, 0, none⟩)] rfl ?hx rfl ?h1 (pw_own_below HT.out.row hw2.out) (Below.refl _ _) (by have := hsz.out; omega) hti.out ?_; (case hx => (show Value.slice (some ⟨_, 0, none⟩) 1 1 = _); (have := hsz.out); (congr 3; omega)); (case h1 => intro u hu; cases hu with | head => rfl | tail _ h => cases h); intro v1 w3 hown hbl hgr hat; obtain ⟨gg, cap, rfl, _, _⟩ := hown.form (by omega); have BK3 := Aside0.mk ((hgr.block (ob + 1) (blk_lt HV2.out) (own_ne (pw_own_below HT.out.row hw2.out) HV2.out (by decide))).trans HV2.out); have H1 := Aside0.mk hown; have H2 := Aside0.mk hgr; clear hown hbl hgr hat; have hcw : w3.cell? ⟨ob + 1, 0, none⟩ = some v := (blk_cell BK3.out 0).trans rfl; have hfw : w3.frozen? ⟨ob + 1, 0, none⟩ = false := blk_frozen BK3.out 0)
        have hps := pushed_fin (Below.refl _ _) H2.out H1.out BK3.out (HT.out.below hw2.out) HV2.out (by omega) htn.out (by have := hsz.out; omega)
        have hst := drop_rd l i hlt
        rw [HN.out] at hst
        have hst2 : HeapM.start 0 l = (ts ++ [⟨n, (i : Int), [(i : Int)]⟩]) ++ HeapM.start (i + 1) (l.drop (i + 1)) := by
          rw [HST.out, hst, List.append_assoc]
          conv => lhs; rw [HeapM.start, if_pos hp]
          rfl
        exact ⟨⟨i + 1, bs ++ [wr.heap.size + 1], ts ++ [⟨n, (i : Int), [(i : Int)]⟩], rfl, by omega, ⟨hst2⟩, ⟨by have := HTI.out; simp; omega⟩, ⟨HS.out.pushed hw2.out (by rw [hob] at hps ⊢; exact hps)⟩⟩, by show _ - ((i : Int) + 1).toNat < _ - (i : Int).toNat; omega⟩
      · have hst := drop_rd l i hlt
        rw [HN.out] at hst
        have HST2 : Aside0 (HeapM.start 0 l = ts ++ HeapM.start (i + 1) (l.drop (i + 1))) := ⟨by
          rw [HST.out, hst]
          conv => lhs; rw [HeapM.start, if_neg hp]⟩
        clear hst
        go_wp2_with fail
        exact ⟨⟨i + 1, bs, ts, rfl, by omega, HST2, ⟨by have := HTI.out; omega⟩, HS⟩, by show _ - ((i : Int) + 1).toNat < _ - (i : Int).toNat; omega⟩
    · have hie : i = l.length := by omega
      have HST2 : Aside0 (HeapM.start 0 l = ts) := ⟨by
        have := HST.out
        rw [hie, List.drop_length] at this
        simpa [HeapM.start] using this⟩
      have HTL : Aside0 (ts.length ≤ l.length) := ⟨by have := HTI.out; omega⟩
      clear HST HTI
      have hlt' : ¬ (i : Int) < (l.length : Int) := by omega
      subst hie
      go_wp2_with (first | (go_at_call 93; (with_reducible refine (init_any _ w.heap.size w.heap.size (ob + 1) bs ts (by rw [← hob]; exact HS.out.heap) (by have := HTL.out; have := HM.out; omega)).mono ?_); rintro e w2 ⟨bs2, rfl, k1, k2, k3⟩; have HS2 := Aside0.mk (HS.out.kept (by rw [← hob] at k1; exact k1) k2 k3); clear k1 k2 k3))
      have HW : Aside0 (wsum (HeapM.start 0 l) ≤ 618475290336) := ⟨by
        have := wsum_le 2147483647 (by decide) 0 l HX.out
        have := HM.out
        omega⟩
      have hdp : rounds l.length (HeapM.init ts) (l.length : Int) (List.replicate l.length 0) = deepM l := by unfold deepM; rw [HST2.out]
      have hgg := (start_G 300 l (by have := used_le l; have := HM.out; omega)).perm (init_is (HeapM.start 0 l)).2
      rw [HST2.out] at hgg
      have HG0 := Aside0.mk hgg
      have HDP := Aside0.mk hdp
      have HSU : Aside0 ((syms ts).Nodup ∧ ∀ s ∈ syms ts, 0 ≤ s ∧ s < l.length) := ⟨by rw [← HST2.out]; exact ⟨(start_nodup 0 l).1, start_range l⟩⟩
      clear hgg hdp
      rw [HST2.out] at HW
      go_loopw [7] (fun v7 wr => ∃ (made k : Nat) (bs' : List Nat) (us : List T) (out : List Int), v7 = .int .i64 (made : Int) ∧ made + us.length ≤ 2 * l.length ∧ Aside0 (Heap us) ∧ us.length ≤ k + 1 ∧ Aside0 (rounds k us made out = deepM l) ∧ Aside0 (G l.length 300 (syms ts) (wsum ts) us made out) ∧ Aside0 (St w wr l.length out bs' us)) (fun v7 _ => 2 * l.length - (intOf v7).toNat)
      case atStart =>
        have hi := init_is ts
        exact ⟨l.length, l.length, bs2, HeapM.init ts, _, rfl, by rw [hi.2.length_eq]; have := HTL.out; omega, ⟨hi.1⟩, by rw [hi.2.length_eq]; have := HTL.out; omega, HDP, HG0, HS2⟩
      case round =>
        clear HS HS2 HDP HG0 HST2 HTL
        obtain ⟨made, k, bs', us, out, rfl, hmu, HHP, hk, HDP, HG, HS⟩ := hrel
        obtain ⟨⟨v, hv, ht⟩, hge⟩ := HS.out.heap
        rw [hob] at hv
        obtain ⟨A, c, rfl⟩ := ht.slice
        have hcv : wr.cell? ⟨ob + 1, 0, none⟩ = some (.slice A us.length c) := (blk_cell hv 0).trans rfl
        clear hv ht hge
        by_cases h1 : 1 < us.length
        · have hd : decide ((us.length : Int) > 1) = true := decide_eq_true (by omega)
          have hd2 : decide (1 < (us.length : Int)) = true := decide_eq_true (by omega)
          have htas := hta
          obtain ⟨a, b, vs, e1, e2, e3, p1, p2, p3, p4, p5⟩ := two us HHP.out h1
          have P1 := Aside0.mk p1
          have P2 := Aside0.mk p2
          have P5 := Aside0.mk p5
          obtain ⟨us1, he1⟩ : ∃ us1, (HeapM.pop us).2 = us1 := ⟨_, rfl⟩
          rw [he1] at e2 e3
          have hl1 : us1.length + 1 = us.length := by rw [← he1, (pop_is us HHP.out (by omega)).2.2.2]; omega
          have E1 := Aside0.mk e1
          have E2 := Aside0.mk e2
          have E3 := Aside0.mk e3
          have E4 := Aside0.mk he1
          have HUL := Aside0.mk (show us.length ≤ 600 by have := HM.out; omega)
          clear p1 p2 p3 p4 p5 e1 e2 e3 he1
          go_wp2_with (first
            | (go_at_call 94; (with_reducible refine (len_any _ A us.length c).mono ?_); rintro e w1 ⟨rfl, rfl⟩)
            | (go_at_call 95; first | ((with_reducible refine (pop_any _ w.heap.size w.heap.size (ob + 1) bs' us (by rw [← hob]; first | exact HS.out.heap | exact HS.out.heap.drewN _) (by omega) (by have := HUL.out; omega)).mono ?_); rw [E1.out, E4.out]; rintro e w3 ⟨b1, bs3, rfl, k1, k2, k3, k4⟩; unfold ptr; have K1 := Aside0.mk k1; have K2 := Aside0.mk k2; have K3 := Aside0.mk k3; have K4 := Aside0.mk k4; clear k1 k2 k3 k4) | ((with_reducible refine (pop_any _ w.heap.size w.heap.size (ob + 1) bs3 us1 (by first | exact K1.out | exact K1.out.drewN _) (by omega) (by have := HUL.out; omega)).mono ?_); rw [E2.out, E3.out]; rintro e w4 ⟨b2, bs4, rfl, k1, k2, k3, k4⟩; unfold ptr; have L1 := Aside0.mk k1; have L2 := Aside0.mk k2; have L3 := Aside0.mk k3; have L4 := Aside0.mk k4; clear k1 k2 k3 k4)))
          have M1 := Aside0.mk (kept_tree L3.out K2.out)
          obtain ⟨g1, sv1, c1, o1, n1⟩ := M1.out
          obtain ⟨g2, sv2, c2, o2, n2⟩ := L2.out
          have hsum : 0 < a.w ∧ 0 < b.w ∧ a.w + b.w ≤ 618475290336 := by
            have g := HG.out.perm P1.out
            have s1 := g.sum
            have s2 := wsum_nonneg vs fun x hx => g.pos x (List.mem_cons_of_mem _ (List.mem_cons_of_mem _ hx))
            have s3 := g.pos a (List.mem_cons_self ..)
            have s4 := g.pos b (List.mem_cons_of_mem _ (List.mem_cons_self ..))
            have s5 := HW.out
            simp only [wsum] at s1
            omega
          obtain ⟨hs1, hs2, hs3⟩ := hsum
          have O1 := Aside0.mk o1
          have O2 := Aside0.mk o2
          have C1 := Aside0.mk c1
          have C2 := Aside0.mk c2
          obtain ⟨A1, d1, hv1⟩ := own_slice o1
          obtain ⟨A2, d2, hv2⟩ := own_slice o2
          subst hv1 hv2
          have HLD : Aside0 (∀ W : World, Below w4.heap.size w4 W → W.cell? ⟨b1, 0, none⟩ = some (.int .i64 a.w) ∧ W.cell? ⟨b1, 2, none⟩ = some (.slice A1 a.s.length d1) ∧ W.cell? ⟨b2, 0, none⟩ = some (.int .i64 b.w) ∧ W.cell? ⟨b2, 2, none⟩ = some (.slice A2 b.s.length d2) ∧ Below w4.heap.size w4 W) := ⟨fun W hW => ⟨pw_cell_below hW ((blk_cell C1.out 0).trans rfl), pw_cell_below hW ((blk_cell C1.out 2).trans rfl), pw_cell_below hW ((blk_cell C2.out 0).trans rfl), pw_cell_below hW ((blk_cell C2.out 2).trans rfl), hW⟩⟩
          have HB4 := Aside0.mk (Below.refl w4.heap.size w4)
          have HLE : Aside0 (a.s.length + b.s.length ≤ 1000) := ⟨by have g := HG.out.perm P1.out; have := g.split_le HSU.out.1 HSU.out.2; have := HM.out; omega⟩
          clear c1 c2 o1 o2 g1 g2 n1 n2 hcv htas
          go_region_held (fun W => W.cell? ⟨b1, 0, none⟩ = some (.int .i64 a.w) ∧ W.cell? ⟨b1, 2, none⟩ = some (.slice A1 a.s.length d1) ∧ W.cell? ⟨b2, 0, none⟩ = some (.int .i64 b.w) ∧ W.cell? ⟨b2, 2, none⟩ = some (.slice A2 b.s.length d2) ∧ Below w4.heap.size w4 W) (exact HLD.out _ (by with_reducible repeat (first | exact HB5.out | exact HB4.out | apply below_alloc | apply pw_below_drewN | apply below_drew1))) ((go_at_call 79; (with_reducible refine (concat_call w4 a.s b.s A1 A2 d1 d2 O1.out O2.out HLE.out).mono ?_); rintro e w5 ⟨v69, rfl, hr69, hb69⟩; obtain ⟨A9, d9, h9⟩ := own_slice hr69; subst h9; have HR69 := Aside0.mk hr69; have HB5 := Aside0.mk hb69; clear hr69 hb69))
          have hwr : IntKind.i64.wrap (a.w + b.w) = a.w + b.w := by rw [IntKind.wrap_i64]; omega
          rw [hwr]
          have HBT := Aside0.mk (Both.new (m := (made : Int)) (base := w.heap.size) (ob := w.heap.size) HB5.out HR69.out (by have := ((HS.out.below.trans K4.out).trans L4.out).size; omega) (by have := ((HS.out.below.trans K4.out).trans L4.out).size; have := HS.out.lt; have := K3.out.1; have := L3.out.1; omega))
          have HS6 := Aside0.mk (HS.out.round K3.out K4.out L3.out L4.out (by have := L1.out; rw [← hob] at this; exact this) (show Below w4.heap.size w4 (w5.alloc (Obj.cells #[Value.int IntKind.i64 (a.w + b.w), Value.int IntKind.i64 ↑made, Value.slice A9 (a.s.length + b.s.length) d9] 120)) from below_alloc HB5.out _))
          obtain ⟨g, hg⟩ : ∃ g, w5.heap.size = g := ⟨_, rfl⟩
          rw [hg] at HBT ⊢
          generalize (w5.alloc (Obj.cells #[Value.int IntKind.i64 (a.w + b.w), Value.int IntKind.i64 ↑made, Value.slice A9 (a.s.length + b.s.length) d9] 120)) = w6 at HBT HS6 ⊢
          have hsl : (a.s ++ b.s).length = a.s.length + b.s.length := List.length_append
          have HSL := Aside0.mk hsl
          have hc2 : w6.cell? ⟨g, 2, none⟩ = some (.slice A9 (a.s.length + b.s.length) d9) := by rw [← hsl]; exact (blk_cell HBT.out.cells 2).trans rfl
          clear hsl HLD HB4 HB5 HR69 O1 O2 C1 C2 M1 L1 L2 L3 L4 K1 K2 K3 K4 HS hwr hg
          obtain ⟨n, hn⟩ : ∃ n, a.s.length + b.s.length = n := ⟨_, rfl⟩
          rw [hn] at hc2
          have HNN := Aside0.mk hn
          have hn1 : (n : Int) ≤ 1000 := by have := HLE.out; omega
          have hn0 : (0 : Int) ≤ (n : Int) := by omega
          have HSY : Aside0 (∀ s ∈ a.s ++ b.s, 0 ≤ s ∧ s < l.length) := ⟨fun s hs => by
            have h := ((HG.out.perm P1.out).split HSU.out.1 HSU.out.2).2.1 s hs
            rw [HG.out.len] at h
            exact h⟩
          clear hn
          go_wp2_with fail
          go_loopw [77] (fun v77 wr => ∃ (q : Nat) (o' : List Int), v77 = .int .i64 (q : Int) ∧ q ≤ n ∧ Aside0 (bump o' ((a.s ++ b.s).drop q) = bump out (a.s ++ b.s)) ∧ Aside0 (∀ s, 0 ≤ s → 0 ≤ o o' s ∧ o o' s ≤ 300 + q) ∧ Aside0 (St w wr l.length o' bs4 vs) ∧ Aside0 (Both wr w.heap.size w.heap.size g A9 d9 (join a b (made : Int)))) (fun v77 _ => n - (intOf v77).toNat)
          case atStart => exact ⟨0, out, rfl, Nat.zero_le _, ⟨rfl⟩, ⟨fun s hs => ⟨HG.out.lo s hs, by have := HG.out.hi s hs; omega⟩⟩, HS6, HBT⟩
          case round =>
            clear HS6 HBT hc2
            obtain ⟨q, o', rfl, hq, HBP, HBO, HS7, HB7⟩ := hrel
            by_cases hlt : q < n
            · have hlt' : (q : Int) < (n : Int) := by omega
              have hlen : (join a b (made : Int)).s.length = n := HSL.out.trans HNN.out
              have hro := HB7.out.row
              rw [hlen] at hro
              obtain ⟨gs, d', he, hgs0, hgs1⟩ := hro.form (by omega)
              injection he with he1 he2 he3
              subst he1 he3
              have hcs := (own_at hro (q : Int) (by omega) hlt').1
              obtain ⟨s, hs⟩ : ∃ s, rd (join a b (made : Int)).s (q : Int) = s := ⟨_, rfl⟩
              rw [hs, Int.toNat_natCast] at hcs
              have hs2 : s ∈ a.s ++ b.s := by rw [← hs]; exact rd_in (join a b (made : Int)).s q (by rw [hlen]; exact hlt)
              obtain ⟨hs0, hs1⟩ := HSY.out s hs2
              have hco := own_at HS7.out.row s hs0 hs1
              rw [hob] at hco
              have hro2 : rd o' s = o o' s := rfl
              rw [hro2] at hco
              obtain ⟨hco1, hco2⟩ := hco
              obtain ⟨hb0, hb1⟩ := HBO.out s hs0
              obtain ⟨x, hx⟩ : ∃ x, o o' s = x := ⟨_, rfl⟩
              rw [hx] at hco1 hb0 hb1
              have HX2 := Aside0.mk hx
              have HSS := Aside0.mk hs
              have HLN := Aside0.mk hlen
              have hqn : (q : Int) ≤ 1000 := by omega
              clear hro hgs0 hgs1 hs hs2 hro2 hx hlen
              go_wp2_with fail
              have hdr : (a.s ++ b.s).drop q = s :: (a.s ++ b.s).drop (q + 1) := by
                have := drop_rd (a.s ++ b.s) q (by have := HSL.out; have := HNN.out; omega)
                rw [this]
                congr 1
                exact HSS.out
              have hbp : bump (o'.set s.toNat (x + 1)) ((a.s ++ b.s).drop (q + 1)) = bump out (a.s ++ b.s) := by
                rw [← HBP.out, hdr]
                conv => rhs; rw [bump]
                rw [HX2.out]
              refine ⟨⟨q + 1, o'.set s.toNat (x + 1), rfl, by omega, ⟨hbp⟩, ⟨fun y hy => ?_⟩, ⟨by rw [← hob]; exact HS7.out.store s (x + 1)⟩, ⟨by rw [← hob]; exact Both.store HS7.out HB7.out s (x + 1)⟩⟩, by show n - ((q : Int) + 1).toNat < n - (q : Int).toNat; omega⟩
              have h1 := HBO.out y hy
              rw [o_set o' s y (x + 1) hs0 (by rw [HS7.out.len]; exact hs1) hy]
              split <;> omega
            · have hqe : q = n := by omega
              have hbp : o' = bump out (a.s ++ b.s) := by
                rw [← HBP.out, List.drop_eq_nil_of_le (by have := HSL.out; have := HNN.out; omega)]
                rfl
              subst hbp
              have hlt' : ¬ (q : Int) < (n : Int) := by omega
              subst hqe
              clear HBP HBO
              go_wp2_with (go_at_call 96; (with_reducible refine (push_any _ w.heap.size w.heap.size (ob + 1) g bs4 vs (join a b (made : Int)) (by rw [← hob]; exact HS7.out.heap) HB7.out.tree (by have := P5.out; have := HUL.out; omega)).mono ?_); rintro e w8 ⟨bs8, rfl, k1, k2, k3⟩; have K1 := Aside0.mk k1; have K2 := Aside0.mk k2; have K3 := Aside0.mk k3; clear k1 k2 k3)
              have hpu := push_is vs (join a b (made : Int)) P2.out
              have hpl : (HeapM.push vs (join a b (made : Int))).length = vs.length + 1 := by rw [hpu.2.length_eq]; rfl
              have hp5 := P5.out
              obtain ⟨k', hk'⟩ : ∃ k', k = k' + 1 := ⟨k - 1, by omega⟩
              have hro : rounds k' (HeapM.push vs (join a b (made : Int))) ((made + 1 : Nat) : Int) (bump out (a.s ++ b.s)) = deepM l := by
                rw [← HDP.out, hk', rounds, if_pos h1, E1.out, E4.out, E2.out, E3.out]
                rfl
              have hg8 := ((HG.out.perm P1.out).step HSU.out.1 HSU.out.2).perm hpu.2
              exact ⟨⟨made + 1, k', bs8, HeapM.push vs (join a b (made : Int)), bump out (a.s ++ b.s), rfl, by omega, ⟨hpu.1⟩, by omega, ⟨hro⟩, ⟨hg8⟩, ⟨HS7.out.kept (by have := K1.out; rw [← hob] at this; exact this) K2.out K3.out⟩⟩, by show 2 * l.length - ((made : Int) + 1).toNat < 2 * l.length - (made : Int).toNat; omega⟩
        · have hd : decide ((us.length : Int) > 1) = false := decide_eq_false (by omega)
          have hd2 : decide (1 < (us.length : Int)) = false := decide_eq_false (by omega)
          have hro : out = deepM l := by
            rw [← HDP.out]
            cases k with
            | zero => rfl
            | succ k => rw [rounds, if_neg h1]
          go_wp2_with (first
            | (go_at_call 94; (with_reducible refine (len_any _ A us.length c).mono ?_); rintro e w1 ⟨rfl, rfl⟩))
          go_ret
          have hrow := HS.out.row
          rw [hob, ← HS.out.len, hro] at hrow
          have hlen : l.length = (deepM l).length := by rw [← hro]; exact HS.out.len.symm
          rw [hob]
          refine ⟨_, rfl, Kd.R_of_own ?_ (fun _ _ => trivial), by rw [← hob]; exact HS.out.below⟩
          show wr.ownsRow ob 3 1 (.slice (some ⟨ob, 0, none⟩) l.length l.length) _ _
          rw [hlen]
          exact hrow
end Go.Proofs.Ytbifignggnfodaa.HeapA
