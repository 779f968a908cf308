-- Written by a program of this session out of the translation (a changed copy of the kit's printer).
import Derived.Test.YtdccnjinehcenaaLF0
import Derived.Test.YtdccnjinehcenaaLF1
import Derived.Test.YtdccnjinehcenaaLF2
import Derived.Test.YtdccnjinehcenaaLF3
import Derived.Test.YtdccnjinehcenaaLF4
import Derived.Test.YtdccnjinehcenaaLF8
import Derived.Test.YtdccnjinehcenaaFz
import Derived.Test.YtdccnjinehcenaaOwn
namespace Go.Proofs.Ytdccnjinehcenaa.LF
open Go.RowKit Go.Proofs.YtdccnjinehcenaaW.PrintWords Go.Proofs.YtdccnjinehcenaaW.PrintLast Go.Proofs.YtdccnjinehcenaaW.PrintMore
attribute [local go_sem] max2_int min2_int max_two min_two max_three min_three max_four min_four   -- for this text's walks alone
set_option linter.unusedVariables false
set_option linter.unusedSimpArgs false

-- IMPORT Derived.Test.YtdccnjinehcenaaFz
-- IMPORT Derived.Test.YtdccnjinehcenaaOwn
/-! ### portagelaw18_SlotForms: function 9 -/
mutual
def portagelaw18_SlotForms.j0 : Nat → Int → Int → Int → Int → List ByteArray → Bool → Option (Bool)
  | 0, _, _, _, _, _, _ => none
  | k + 1, x0, x7, x9, x11, x14, x73 => if x73 = true then (none) else (if 0 < (x14.length : Int) then (if (rdOf ByteArray.empty x14 0).size ≤ 9223372036854775807 then ((some (bytesOf (rdOf ByteArray.empty x14 0) : List Int)).bind fun y249 => ((some (([0, 1, 2, 3, 4, 8, 9, 30, 62, 63] : List Int) : List Int)).bind fun y252 => (if 0 ≤ (wrap64 (Int.tmod (IntKind.u64.wrap (x0)) 10)) then (if (wrap64 (Int.tmod (IntKind.u64.wrap (x0)) 10)) < (y252.length : Int) then (if 0 ≤ (rd y252 (wrap64 (Int.tmod (IntKind.u64.wrap (x0)) 10))) then (if (rd y252 (wrap64 (Int.tmod (IntKind.u64.wrap (x0)) 10))) < (y249.length : Int) then ((some (([] : List ByteArray) : List ByteArray)).bind fun y258 => (if y258.length + x14.length < 8796093022208 then ((some (y258 ++ x14 : List ByteArray)).bind fun y261 => (if 0 < (y261.length : Int) then ((slot_Find.f k (y261.set (0 : Int).toNat (strOfNums (y249.set ((rd y252 (wrap64 (Int.tmod (IntKind.u64.wrap (x0)) 10))) : Int).toNat (Go.bits .xor .u8 (rd y249 (rd y252 (wrap64 (Int.tmod (IntKind.u64.wrap (x0)) 10)))) 128))))).bind fun bt265 => (if 129 ≤ (x14.length : Int) then ((slot_Find.f k (x14.take 129)).bind fun bt272 => (if (rd y252 (wrap64 (Int.tmod (IntKind.u64.wrap (x0)) 10))) = 1 then ((portagelaw0_Num.f x7).bind fun t275 => (if t275 = 1800 then ((portagelaw0_Num.f x9).bind fun t276 => (if t276 = 1800 then ((portagelaw0_Num.f x11).bind fun t277 => (if t277 = 1800 then (if bt265.1 = 130 then ((portagelaw0_Num.f bt265.2.2).bind fun t278 => (if t278 = 0 then ((portagelaw0_Num.f bt272.2.2).bind fun t279 => (some (t279 == 1800))) else (none))) else (none)) else (none))) else (none))) else (none))) else (if (rd y252 (wrap64 (Int.tmod (IntKind.u64.wrap (x0)) 10))) = 2 then (portagelaw18_SlotForms.j1 k x7 x9 x11 bt265.1 bt265.2.1 bt265.2.2 bt272.2.2 true) else (portagelaw18_SlotForms.j1 k x7 x9 x11 bt265.1 bt265.2.1 bt265.2.2 bt272.2.2 ((rd y252 (wrap64 (Int.tmod (IntKind.u64.wrap (x0)) 10))) == 3))))) else (none))) else (none))) else (none))) else (none)) else (none)) else (none)) else (none)))) else (none)) else (none))
def portagelaw18_SlotForms.j1 : Nat → Int → Int → Int → Int → ByteArray → Int → Int → Bool → Option (Bool)
  | 0, _, _, _, _, _, _, _, _ => none
  | k + 1, x7, x9, x11, x19, x20, x21, x24, x147 => if x147 = true then ((portagelaw0_Num.f x7).bind fun t280 => (if t280 = 1800 then ((portagelaw0_Num.f x9).bind fun t281 => (if t281 = 1800 then ((portagelaw0_Num.f x11).bind fun t282 => (if t282 = 1800 then ((portagelaw0_Num.f x21).bind fun t283 => (if t283 = 1801 then (some true) else (if (Go.bits .and .i64 x19 1) = 0 then ((portagelaw18_text.f k 100 97).bind fun t284 => (some (x20.toList == t284.toList))) else (none)))) else (none))) else (none))) else (none))) else ((portagelaw0_Num.f x7).bind fun t285 => (if t285 = 1800 then ((portagelaw0_Num.f x9).bind fun t286 => (if t286 = 1800 then ((portagelaw0_Num.f x11).bind fun t287 => (if t287 = 1800 then (if x19 = 0 then (if x20.toList = ([] : List UInt8) then ((portagelaw0_Num.f x21).bind fun t288 => (if t288 = 1801 then ((portagelaw0_Num.f x24).bind fun t289 => (some (t289 == 1800))) else (none))) else (none)) else (none)) else (none))) else (none))) else (none)))
end
def portagelaw18_SlotForms.f (k : Nat) (a0 : Int) (a1 : Int) : Option (Bool) := (portagelaw18_awake.f k).bind fun t221 => (if t221 = true then ((slot_Plan.f k (wrap64 (1 - (wrap64 (1 + (Go.bits .and .i64 a1 1023))))) (⟨#[]⟩ : ByteArray)).bind fun bt222 => ((slot_Plan.f k (wrap64 (1048576 + (wrap64 (1 + (Go.bits .and .i64 a1 1023))))) (⟨#[]⟩ : ByteArray)).bind fun bt226 => ((portagelaw18_text.f k (wrap64 (4096 + (wrap64 (1 + (Go.bits .and .i64 a1 1023))))) 97).bind fun t230 => ((slot_Plan.f k 1 t230).bind fun bt231 => ((portagelaw18_text.f k 100 97).bind fun t235 => ((slot_Plan.f k 2 t235).bind fun bt236 => ((portageref17_NewDisk.f k).bind fun t240 => ((portageref17_Run.f k t240 bt236.1 (bt236.1.length : Int) 0).bind fun bt243 => ((portagelaw0_Num.f bt236.2).bind fun t247 => (if t247 = 0 then (if bt243.2 = 0 then (portagelaw18_SlotForms.j0 k a0 bt222.2 bt226.2 bt231.2 bt243.1 ((bt236.1.length : Int) != 4)) else (portagelaw18_SlotForms.j0 k a0 bt222.2 bt226.2 bt231.2 bt243.1 true)) else (portagelaw18_SlotForms.j0 k a0 bt222.2 bt226.2 bt231.2 bt243.1 true))))))))))) else (none))
theorem portagelaw18_SlotForms.mono_l : ∀ k, (∀ y0 y1 y2 y3 y4 y5, LeO (portagelaw18_SlotForms.j0 k y0 y1 y2 y3 y4 y5) (portagelaw18_SlotForms.j0 (k + 1) y0 y1 y2 y3 y4 y5)) ∧ (∀ y0 y1 y2 y3 y4 y5 y6 y7, LeO (portagelaw18_SlotForms.j1 k y0 y1 y2 y3 y4 y5 y6 y7) (portagelaw18_SlotForms.j1 (k + 1) y0 y1 y2 y3 y4 y5 y6 y7))
  | 0 => ⟨fun _ _ _ _ _ _ r h => by simp [portagelaw18_SlotForms.j0] at h, fun _ _ _ _ _ _ _ _ r h => by simp [portagelaw18_SlotForms.j1] at h⟩
  | k + 1 => by
    obtain ⟨ih0, ih1⟩ := portagelaw18_SlotForms.mono_l k
    refine ⟨?_, ?_⟩
    · intro y0 y1 y2 y3 y4 y5
      unfold portagelaw18_SlotForms.j0
      repeat' first
      | (with_reducible exact ih0 _ _ _ _ _ _)
      | (with_reducible exact ih1 _ _ _ _ _ _ _ _)
      | (with_reducible exact portagelaw18_awake.mono _)
      | (with_reducible exact portagelaw18_text.mono _ _ _)
      | (with_reducible exact portageref17_NewDisk.mono _)
      | (with_reducible exact portageref17_Run.mono _ _ _ _ _)
      | (with_reducible exact slot_Find.mono _ _)
      | (with_reducible exact slot_Plan.mono _ _ _)
      | (with_reducible exact LeO.refl _)
      | (with_reducible exact LeO.none _)
      | (with_reducible refine LeO.ite ?_ ?_)
      | (with_reducible refine LeO.bind ?_ (fun _ => ?_))
      | exact ih0 _ _ _ _ _ _
      | exact ih1 _ _ _ _ _ _ _ _
      | exact portagelaw18_awake.mono _
      | exact portagelaw18_text.mono _ _ _
      | exact portageref17_NewDisk.mono _
      | exact portageref17_Run.mono _ _ _ _ _
      | exact slot_Find.mono _ _
      | exact slot_Plan.mono _ _ _
      | exact LeO.none _
      | refine LeO.ite ?_ ?_
      | refine LeO.bind ?_ (fun _ => ?_)
    · intro y0 y1 y2 y3 y4 y5 y6 y7
      unfold portagelaw18_SlotForms.j1
      repeat' first
      | (with_reducible exact ih0 _ _ _ _ _ _)
      | (with_reducible exact ih1 _ _ _ _ _ _ _ _)
      | (with_reducible exact portagelaw18_awake.mono _)
      | (with_reducible exact portagelaw18_text.mono _ _ _)
      | (with_reducible exact portageref17_NewDisk.mono _)
      | (with_reducible exact portageref17_Run.mono _ _ _ _ _)
      | (with_reducible exact slot_Find.mono _ _)
      | (with_reducible exact slot_Plan.mono _ _ _)
      | (with_reducible exact LeO.refl _)
      | (with_reducible exact LeO.none _)
      | (with_reducible refine LeO.ite ?_ ?_)
      | (with_reducible refine LeO.bind ?_ (fun _ => ?_))
      | exact ih0 _ _ _ _ _ _
      | exact ih1 _ _ _ _ _ _ _ _
      | exact portagelaw18_awake.mono _
      | exact portagelaw18_text.mono _ _ _
      | exact portageref17_NewDisk.mono _
      | exact portageref17_Run.mono _ _ _ _ _
      | exact slot_Find.mono _ _
      | exact slot_Plan.mono _ _ _
      | exact LeO.none _
      | refine LeO.ite ?_ ?_
      | refine LeO.bind ?_ (fun _ => ?_)
theorem portagelaw18_SlotForms.mono : ∀ a0 a1 k, LeO (portagelaw18_SlotForms.f k a0 a1) (portagelaw18_SlotForms.f (k + 1) a0 a1) := by
  intro a0 a1 k
  obtain ⟨ih0, ih1⟩ := portagelaw18_SlotForms.mono_l k
  unfold portagelaw18_SlotForms.f
  repeat' first
      | (with_reducible exact ih0 _ _ _ _ _ _)
      | (with_reducible exact ih1 _ _ _ _ _ _ _ _)
      | (with_reducible exact portagelaw18_awake.mono _)
      | (with_reducible exact portagelaw18_text.mono _ _ _)
      | (with_reducible exact portageref17_NewDisk.mono _)
      | (with_reducible exact portageref17_Run.mono _ _ _ _ _)
      | (with_reducible exact slot_Find.mono _ _)
      | (with_reducible exact slot_Plan.mono _ _ _)
      | (with_reducible exact LeO.refl _)
      | (with_reducible exact LeO.none _)
      | (with_reducible refine LeO.ite ?_ ?_)
      | (with_reducible refine LeO.bind ?_ (fun _ => ?_))
      | exact ih0 _ _ _ _ _ _
      | exact ih1 _ _ _ _ _ _ _ _
      | exact portagelaw18_awake.mono _
      | exact portagelaw18_text.mono _ _ _
      | exact portageref17_NewDisk.mono _
      | exact portageref17_Run.mono _ _ _ _ _
      | exact slot_Find.mono _ _
      | exact slot_Plan.mono _ _ _
      | exact LeO.none _
      | refine LeO.ite ?_ ?_
      | refine LeO.bind ?_ (fun _ => ?_)
set_option maxHeartbeats 8000000 in
set_option maxRecDepth 100000 in
theorem portagelaw18_SlotForms.calls (k : Nat) (a0 : Int) (a1 : Int) (r : Bool) (w : World) (h : portagelaw18_SlotForms.f k a0 a1 = some r) :
    Calls Try.prog 9 #[.int .i64 a0, .int .i64 a1] w fun e w' => e = .returned (.bool r) ∧ Below w.heap.size w w' := by
  have HB := Aside0.mk (Below.refl w.heap.size w)
  have H : ((portagelaw18_awake.f k).bind fun t221 => (if t221 = true then ((slot_Plan.f k (wrap64 (1 - (wrap64 (1 + (Go.bits .and .i64 a1 1023))))) (⟨#[]⟩ : ByteArray)).bind fun bt222 => ((slot_Plan.f k (wrap64 (1048576 + (wrap64 (1 + (Go.bits .and .i64 a1 1023))))) (⟨#[]⟩ : ByteArray)).bind fun bt226 => ((portagelaw18_text.f k (wrap64 (4096 + (wrap64 (1 + (Go.bits .and .i64 a1 1023))))) 97).bind fun t230 => ((slot_Plan.f k 1 t230).bind fun bt231 => ((portagelaw18_text.f k 100 97).bind fun t235 => ((slot_Plan.f k 2 t235).bind fun bt236 => ((portageref17_NewDisk.f k).bind fun t240 => ((portageref17_Run.f k t240 bt236.1 (bt236.1.length : Int) 0).bind fun bt243 => ((portagelaw0_Num.f bt236.2).bind fun t247 => (if t247 = 0 then (if bt243.2 = 0 then (portagelaw18_SlotForms.j0 k a0 bt222.2 bt226.2 bt231.2 bt243.1 ((bt236.1.length : Int) != 4)) else (portagelaw18_SlotForms.j0 k a0 bt222.2 bt226.2 bt231.2 bt243.1 true)) else (portagelaw18_SlotForms.j0 k a0 bt222.2 bt226.2 bt231.2 bt243.1 true))))))))))) else (none))) = some r := h
  clear h
  replace H := Option.bind_eq_some_iff.mp H
  obtain ⟨t221, A30, H⟩ := H
  replace H : (if t221 = true then ((slot_Plan.f k (wrap64 (1 - (wrap64 (1 + (Go.bits .and .i64 a1 1023))))) (⟨#[]⟩ : ByteArray)).bind fun bt222 => ((slot_Plan.f k (wrap64 (1048576 + (wrap64 (1 + (Go.bits .and .i64 a1 1023))))) (⟨#[]⟩ : ByteArray)).bind fun bt226 => ((portagelaw18_text.f k (wrap64 (4096 + (wrap64 (1 + (Go.bits .and .i64 a1 1023))))) 97).bind fun t230 => ((slot_Plan.f k 1 t230).bind fun bt231 => ((portagelaw18_text.f k 100 97).bind fun t235 => ((slot_Plan.f k 2 t235).bind fun bt236 => ((portageref17_NewDisk.f k).bind fun t240 => ((portageref17_Run.f k t240 bt236.1 (bt236.1.length : Int) 0).bind fun bt243 => ((portagelaw0_Num.f bt236.2).bind fun t247 => (if t247 = 0 then (if bt243.2 = 0 then (portagelaw18_SlotForms.j0 k a0 bt222.2 bt226.2 bt231.2 bt243.1 ((bt236.1.length : Int) != 4)) else (portagelaw18_SlotForms.j0 k a0 bt222.2 bt226.2 bt231.2 bt243.1 true)) else (portagelaw18_SlotForms.j0 k a0 bt222.2 bt226.2 bt231.2 bt243.1 true))))))))))) else (none)) = some r := H
  have A3 := Aside0.mk A30
  clear A30
  by_cases c4 : t221 = true
  · subst c4
    have H1 : ((slot_Plan.f k (wrap64 (1 - (wrap64 (1 + (Go.bits .and .i64 a1 1023))))) (⟨#[]⟩ : ByteArray)).bind fun bt222 => ((slot_Plan.f k (wrap64 (1048576 + (wrap64 (1 + (Go.bits .and .i64 a1 1023))))) (⟨#[]⟩ : ByteArray)).bind fun bt226 => ((portagelaw18_text.f k (wrap64 (4096 + (wrap64 (1 + (Go.bits .and .i64 a1 1023))))) 97).bind fun t230 => ((slot_Plan.f k 1 t230).bind fun bt231 => ((portagelaw18_text.f k 100 97).bind fun t235 => ((slot_Plan.f k 2 t235).bind fun bt236 => ((portageref17_NewDisk.f k).bind fun t240 => ((portageref17_Run.f k t240 bt236.1 (bt236.1.length : Int) 0).bind fun bt243 => ((portagelaw0_Num.f bt236.2).bind fun t247 => (if t247 = 0 then (if bt243.2 = 0 then (portagelaw18_SlotForms.j0 k a0 bt222.2 bt226.2 bt231.2 bt243.1 ((bt236.1.length : Int) != 4)) else (portagelaw18_SlotForms.j0 k a0 bt222.2 bt226.2 bt231.2 bt243.1 true)) else (portagelaw18_SlotForms.j0 k a0 bt222.2 bt226.2 bt231.2 bt243.1 true))))))))))) = some r := by rw [if_pos rfl] at H; exact H
    clear H
    have H := H1
    clear H1
    replace H := Option.bind_eq_some_iff.mp H
    obtain ⟨⟨t222, t223⟩, A50, H⟩ := H
    replace H : ((slot_Plan.f k (wrap64 (1048576 + (wrap64 (1 + (Go.bits .and .i64 a1 1023))))) (⟨#[]⟩ : ByteArray)).bind fun bt226 => ((portagelaw18_text.f k (wrap64 (4096 + (wrap64 (1 + (Go.bits .and .i64 a1 1023))))) 97).bind fun t230 => ((slot_Plan.f k 1 t230).bind fun bt231 => ((portagelaw18_text.f k 100 97).bind fun t235 => ((slot_Plan.f k 2 t235).bind fun bt236 => ((portageref17_NewDisk.f k).bind fun t240 => ((portageref17_Run.f k t240 bt236.1 (bt236.1.length : Int) 0).bind fun bt243 => ((portagelaw0_Num.f bt236.2).bind fun t247 => (if t247 = 0 then (if bt243.2 = 0 then (portagelaw18_SlotForms.j0 k a0 t223 bt226.2 bt231.2 bt243.1 ((bt236.1.length : Int) != 4)) else (portagelaw18_SlotForms.j0 k a0 t223 bt226.2 bt231.2 bt243.1 true)) else (portagelaw18_SlotForms.j0 k a0 t223 bt226.2 bt231.2 bt243.1 true)))))))))) = some r := H
    have A5 := Aside0.mk A50
    clear A50
    replace H := Option.bind_eq_some_iff.mp H
    obtain ⟨⟨t226, t227⟩, A60, H⟩ := H
    replace H : ((portagelaw18_text.f k (wrap64 (4096 + (wrap64 (1 + (Go.bits .and .i64 a1 1023))))) 97).bind fun t230 => ((slot_Plan.f k 1 t230).bind fun bt231 => ((portagelaw18_text.f k 100 97).bind fun t235 => ((slot_Plan.f k 2 t235).bind fun bt236 => ((portageref17_NewDisk.f k).bind fun t240 => ((portageref17_Run.f k t240 bt236.1 (bt236.1.length : Int) 0).bind fun bt243 => ((portagelaw0_Num.f bt236.2).bind fun t247 => (if t247 = 0 then (if bt243.2 = 0 then (portagelaw18_SlotForms.j0 k a0 t223 t227 bt231.2 bt243.1 ((bt236.1.length : Int) != 4)) else (portagelaw18_SlotForms.j0 k a0 t223 t227 bt231.2 bt243.1 true)) else (portagelaw18_SlotForms.j0 k a0 t223 t227 bt231.2 bt243.1 true))))))))) = some r := H
    have A6 := Aside0.mk A60
    clear A60
    replace H := Option.bind_eq_some_iff.mp H
    obtain ⟨t230, A70, H⟩ := H
    replace H : ((slot_Plan.f k 1 t230).bind fun bt231 => ((portagelaw18_text.f k 100 97).bind fun t235 => ((slot_Plan.f k 2 t235).bind fun bt236 => ((portageref17_NewDisk.f k).bind fun t240 => ((portageref17_Run.f k t240 bt236.1 (bt236.1.length : Int) 0).bind fun bt243 => ((portagelaw0_Num.f bt236.2).bind fun t247 => (if t247 = 0 then (if bt243.2 = 0 then (portagelaw18_SlotForms.j0 k a0 t223 t227 bt231.2 bt243.1 ((bt236.1.length : Int) != 4)) else (portagelaw18_SlotForms.j0 k a0 t223 t227 bt231.2 bt243.1 true)) else (portagelaw18_SlotForms.j0 k a0 t223 t227 bt231.2 bt243.1 true)))))))) = some r := H
    have A7 := Aside0.mk A70
    clear A70
    replace H := Option.bind_eq_some_iff.mp H
    obtain ⟨⟨t231, t232⟩, A80, H⟩ := H
    replace H : ((portagelaw18_text.f k 100 97).bind fun t235 => ((slot_Plan.f k 2 t235).bind fun bt236 => ((portageref17_NewDisk.f k).bind fun t240 => ((portageref17_Run.f k t240 bt236.1 (bt236.1.length : Int) 0).bind fun bt243 => ((portagelaw0_Num.f bt236.2).bind fun t247 => (if t247 = 0 then (if bt243.2 = 0 then (portagelaw18_SlotForms.j0 k a0 t223 t227 t232 bt243.1 ((bt236.1.length : Int) != 4)) else (portagelaw18_SlotForms.j0 k a0 t223 t227 t232 bt243.1 true)) else (portagelaw18_SlotForms.j0 k a0 t223 t227 t232 bt243.1 true))))))) = some r := H
    have A8 := Aside0.mk A80
    clear A80
    replace H := Option.bind_eq_some_iff.mp H
    obtain ⟨t235, A90, H⟩ := H
    replace H : ((slot_Plan.f k 2 t235).bind fun bt236 => ((portageref17_NewDisk.f k).bind fun t240 => ((portageref17_Run.f k t240 bt236.1 (bt236.1.length : Int) 0).bind fun bt243 => ((portagelaw0_Num.f bt236.2).bind fun t247 => (if t247 = 0 then (if bt243.2 = 0 then (portagelaw18_SlotForms.j0 k a0 t223 t227 t232 bt243.1 ((bt236.1.length : Int) != 4)) else (portagelaw18_SlotForms.j0 k a0 t223 t227 t232 bt243.1 true)) else (portagelaw18_SlotForms.j0 k a0 t223 t227 t232 bt243.1 true)))))) = some r := H
    have A9 := Aside0.mk A90
    clear A90
    replace H := Option.bind_eq_some_iff.mp H
    obtain ⟨⟨t236, t237⟩, A100, H⟩ := H
    replace H : ((portageref17_NewDisk.f k).bind fun t240 => ((portageref17_Run.f k t240 t236 (t236.length : Int) 0).bind fun bt243 => ((portagelaw0_Num.f t237).bind fun t247 => (if t247 = 0 then (if bt243.2 = 0 then (portagelaw18_SlotForms.j0 k a0 t223 t227 t232 bt243.1 ((t236.length : Int) != 4)) else (portagelaw18_SlotForms.j0 k a0 t223 t227 t232 bt243.1 true)) else (portagelaw18_SlotForms.j0 k a0 t223 t227 t232 bt243.1 true))))) = some r := H
    have A10 := Aside0.mk A100
    clear A100
    replace H := Option.bind_eq_some_iff.mp H
    obtain ⟨t240, A110, H⟩ := H
    replace H : ((portageref17_Run.f k t240 t236 (t236.length : Int) 0).bind fun bt243 => ((portagelaw0_Num.f t237).bind fun t247 => (if t247 = 0 then (if bt243.2 = 0 then (portagelaw18_SlotForms.j0 k a0 t223 t227 t232 bt243.1 ((t236.length : Int) != 4)) else (portagelaw18_SlotForms.j0 k a0 t223 t227 t232 bt243.1 true)) else (portagelaw18_SlotForms.j0 k a0 t223 t227 t232 bt243.1 true)))) = some r := H
    have A11 := Aside0.mk A110
    clear A110
    replace H := Option.bind_eq_some_iff.mp H
    obtain ⟨⟨t243, t244⟩, A120, H⟩ := H
    replace H : ((portagelaw0_Num.f t237).bind fun t247 => (if t247 = 0 then (if t244 = 0 then (portagelaw18_SlotForms.j0 k a0 t223 t227 t232 t243 ((t236.length : Int) != 4)) else (portagelaw18_SlotForms.j0 k a0 t223 t227 t232 t243 true)) else (portagelaw18_SlotForms.j0 k a0 t223 t227 t232 t243 true))) = some r := H
    have A12 := Aside0.mk A120
    clear A120
    have HC13 := Aside0.mk H
    clear H
    go_enter Try.func9, Try.ntmps9
    go_upto_region 9 with (first | ((with_reducible refine gate_callee (f := 31) rfl ?_); refine goesL_ (some 25) rfl rfl Try.func31 (by kernel_rfl) rfl #[] rfl (by (try simp only [List.map_toArray, List.map_cons, List.map_nil]); first | done | rfl | (simp only [List.length_drop, List.length_take]; rfl)) ?_; (with_reducible refine (portagelaw18_awake.calls k  true _ A3.out).mono ?_); rintro e w14 ⟨rfl, hb⟩; refine ⟨_, rfl, ?_⟩; have n0_ := Aside0.mk (below_step (by repeat (first | (with_reducible first | exact HB.out | apply below_alloc | apply pw_below_drewN | apply below_drew1) | exact HB.out)) hb); clear HB; have HB := n0_; clear n0_; (try clear hb); (try clear hb2); (try clear hk); (try clear hi)) | ((with_reducible refine gate_callee (f := 25) rfl ?_); refine goesL_ (some 33) rfl rfl Try.func25 (by kernel_rfl) rfl #[.int .i64 (wrap64 (1 - (wrap64 (1 + (Go.bits .and .i64 a1 1023))))), .string (⟨#[]⟩ : ByteArray)] rfl (by (try simp only [List.map_toArray, List.map_cons, List.map_nil]); first | done | rfl | (simp only [List.length_drop, List.length_take]; rfl)) ?_; (with_reducible refine (slot_Plan.calls k (wrap64 (1 - (wrap64 (1 + (Go.bits .and .i64 a1 1023))))) (⟨#[]⟩ : ByteArray) t222 t223 _ A5.out).mono ?_); rintro e w15 ⟨v224, rfl, ho0, hb⟩; refine ⟨_, rfl, ?_⟩; have n0_ := Aside0.mk (Kd.R_lower ho0 (below_size (by repeat (first | (with_reducible first | exact HB.out | apply below_alloc | apply pw_below_drewN | apply below_drew1) | exact HB.out)))); have n1_ := Aside0.mk (below_step (by repeat (first | (with_reducible first | exact HB.out | apply below_alloc | apply pw_below_drewN | apply below_drew1) | exact HB.out)) hb); clear HB; have HO225 := n0_; have HB := n1_; clear n0_ n1_; (try clear hb); (try clear hb2); (try clear hk); (try clear hi); (try clear ho0)) | ((with_reducible refine gate_callee (f := 25) rfl ?_); refine goesL_ (some 39) rfl rfl Try.func25 (by kernel_rfl) rfl #[.int .i64 (wrap64 (1048576 + (wrap64 (1 + (Go.bits .and .i64 a1 1023))))), .string (⟨#[]⟩ : ByteArray)] rfl (by (try simp only [List.map_toArray, List.map_cons, List.map_nil]); first | done | rfl | (simp only [List.length_drop, List.length_take]; rfl)) ?_; (with_reducible refine (slot_Plan.calls k (wrap64 (1048576 + (wrap64 (1 + (Go.bits .and .i64 a1 1023))))) (⟨#[]⟩ : ByteArray) t226 t227 _ A6.out).mono ?_); rintro e w16 ⟨v228, rfl, ho0, hb⟩; refine ⟨_, rfl, ?_⟩; have n0_ := Aside0.mk (Kd.R_elder' (by (with_reducible repeat (first | apply Kd.R_alloc | apply Kd.R_drewN | apply Kd.R_drew | apply Go.Proofs.YtdccnjinehcenaaW.Own.Fz.R_alloc | apply Go.Proofs.YtdccnjinehcenaaW.Own.Fz.R_drewN | apply Go.Proofs.YtdccnjinehcenaaW.Own.Fz.R_drew)); exact HO225.out) (Kd.R_base ho0) hb); have n1_ := Aside0.mk (Kd.R_lower (Kd.R_new' ho0 (Kd.R_lt (by (with_reducible repeat (first | apply Kd.R_alloc | apply Kd.R_drewN | apply Kd.R_drew | apply Go.Proofs.YtdccnjinehcenaaW.Own.Fz.R_alloc | apply Go.Proofs.YtdccnjinehcenaaW.Own.Fz.R_drewN | apply Go.Proofs.YtdccnjinehcenaaW.Own.Fz.R_drew)); exact HO225.out))) (below_size (by repeat (first | (with_reducible first | exact HB.out | apply below_alloc | apply pw_below_drewN | apply below_drew1) | exact HB.out)))); have n2_ := Aside0.mk (below_step (by repeat (first | (with_reducible first | exact HB.out | apply below_alloc | apply pw_below_drewN | apply below_drew1) | exact HB.out)) hb); clear HO225; clear HB; have HO225 := n0_; have HO229 := n1_; have HB := n2_; clear n0_ n1_ n2_; (try clear hb); (try clear hb2); (try clear hk); (try clear hi); (try clear ho0)) | ((with_reducible refine gate_callee (f := 32) rfl ?_); refine goesL_ (some 45) rfl rfl Try.func32 (by kernel_rfl) rfl #[.int .i64 (wrap64 (4096 + (wrap64 (1 + (Go.bits .and .i64 a1 1023))))), .int .u8 97] rfl (by (try simp only [List.map_toArray, List.map_cons, List.map_nil]); first | done | rfl | (simp only [List.length_drop, List.length_take]; rfl)) ?_; (with_reducible refine (portagelaw18_text.calls k (wrap64 (4096 + (wrap64 (1 + (Go.bits .and .i64 a1 1023))))) 97 t230 _ A7.out).mono ?_); rintro e w17 ⟨rfl, hb⟩; refine ⟨_, rfl, ?_⟩; have n0_ := Aside0.mk (Kd.R_below (by (with_reducible repeat (first | apply Kd.R_alloc | apply Kd.R_drewN | apply Kd.R_drew | apply Go.Proofs.YtdccnjinehcenaaW.Own.Fz.R_alloc | apply Go.Proofs.YtdccnjinehcenaaW.Own.Fz.R_drewN | apply Go.Proofs.YtdccnjinehcenaaW.Own.Fz.R_drew)); exact HO225.out) hb); have n1_ := Aside0.mk (Kd.R_below (by (with_reducible repeat (first | apply Kd.R_alloc | apply Kd.R_drewN | apply Kd.R_drew | apply Go.Proofs.YtdccnjinehcenaaW.Own.Fz.R_alloc | apply Go.Proofs.YtdccnjinehcenaaW.Own.Fz.R_drewN | apply Go.Proofs.YtdccnjinehcenaaW.Own.Fz.R_drew)); exact HO229.out) hb); have n2_ := Aside0.mk (below_step (by repeat (first | (with_reducible first | exact HB.out | apply below_alloc | apply pw_below_drewN | apply below_drew1) | exact HB.out)) hb); clear HO225; clear HO229; clear HB; have HO225 := n0_; have HO229 := n1_; have HB := n2_; clear n0_ n1_ n2_; (try clear hb); (try clear hb2); (try clear hk); (try clear hi)) | ((with_reducible refine gate_callee (f := 25) rfl ?_); refine goesL_ (some 46) rfl rfl Try.func25 (by kernel_rfl) rfl #[.int .i64 1, .string t230] rfl (by (try simp only [List.map_toArray, List.map_cons, List.map_nil]); first | done | rfl | (simp only [List.length_drop, List.length_take]; rfl)) ?_; (with_reducible refine (slot_Plan.calls k 1 t230 t231 t232 _ A8.out).mono ?_); rintro e w18 ⟨v233, rfl, ho0, hb⟩; refine ⟨_, rfl, ?_⟩; have n0_ := Aside0.mk (Kd.R_elder' (by (with_reducible repeat (first | apply Kd.R_alloc | apply Kd.R_drewN | apply Kd.R_drew | apply Go.Proofs.YtdccnjinehcenaaW.Own.Fz.R_alloc | apply Go.Proofs.YtdccnjinehcenaaW.Own.Fz.R_drewN | apply Go.Proofs.YtdccnjinehcenaaW.Own.Fz.R_drew)); exact HO225.out) (Kd.R_base ho0) hb); have n1_ := Aside0.mk (Kd.R_elder' (by (with_reducible repeat (first | apply Kd.R_alloc | apply Kd.R_drewN | apply Kd.R_drew | apply Go.Proofs.YtdccnjinehcenaaW.Own.Fz.R_alloc | apply Go.Proofs.YtdccnjinehcenaaW.Own.Fz.R_drewN | apply Go.Proofs.YtdccnjinehcenaaW.Own.Fz.R_drew)); exact HO229.out) (Kd.R_base ho0) hb); have n2_ := Aside0.mk (Kd.R_lower (Kd.R_new' (Kd.R_new' ho0 (Kd.R_lt (by (with_reducible repeat (first | apply Kd.R_alloc | apply Kd.R_drewN | apply Kd.R_drew | apply Go.Proofs.YtdccnjinehcenaaW.Own.Fz.R_alloc | apply Go.Proofs.YtdccnjinehcenaaW.Own.Fz.R_drewN | apply Go.Proofs.YtdccnjinehcenaaW.Own.Fz.R_drew)); exact HO225.out))) (Kd.R_lt (by (with_reducible repeat (first | apply Kd.R_alloc | apply Kd.R_drewN | apply Kd.R_drew | apply Go.Proofs.YtdccnjinehcenaaW.Own.Fz.R_alloc | apply Go.Proofs.YtdccnjinehcenaaW.Own.Fz.R_drewN | apply Go.Proofs.YtdccnjinehcenaaW.Own.Fz.R_drew)); exact HO229.out))) (below_size (by repeat (first | (with_reducible first | exact HB.out | apply below_alloc | apply pw_below_drewN | apply below_drew1) | exact HB.out)))); have n3_ := Aside0.mk (below_step (by repeat (first | (with_reducible first | exact HB.out | apply below_alloc | apply pw_below_drewN | apply below_drew1) | exact HB.out)) hb); clear HO225; clear HO229; clear HB; have HO225 := n0_; have HO229 := n1_; have HO234 := n2_; have HB := n3_; clear n0_ n1_ n2_ n3_; (try clear hb); (try clear hb2); (try clear hk); (try clear hi); (try clear ho0)) | ((with_reducible refine gate_callee (f := 32) rfl ?_); refine goesL_ (some 50) rfl rfl Try.func32 (by kernel_rfl) rfl #[.int .i64 100, .int .u8 97] rfl (by (try simp only [List.map_toArray, List.map_cons, List.map_nil]); first | done | rfl | (simp only [List.length_drop, List.length_take]; rfl)) ?_; (with_reducible refine (portagelaw18_text.calls k 100 97 t235 _ A9.out).mono ?_); rintro e w19 ⟨rfl, hb⟩; refine ⟨_, rfl, ?_⟩; have n0_ := Aside0.mk (Kd.R_below (by (with_reducible repeat (first | apply Kd.R_alloc | apply Kd.R_drewN | apply Kd.R_drew | apply Go.Proofs.YtdccnjinehcenaaW.Own.Fz.R_alloc | apply Go.Proofs.YtdccnjinehcenaaW.Own.Fz.R_drewN | apply Go.Proofs.YtdccnjinehcenaaW.Own.Fz.R_drew)); exact HO225.out) hb); have n1_ := Aside0.mk (Kd.R_below (by (with_reducible repeat (first | apply Kd.R_alloc | apply Kd.R_drewN | apply Kd.R_drew | apply Go.Proofs.YtdccnjinehcenaaW.Own.Fz.R_alloc | apply Go.Proofs.YtdccnjinehcenaaW.Own.Fz.R_drewN | apply Go.Proofs.YtdccnjinehcenaaW.Own.Fz.R_drew)); exact HO229.out) hb); have n2_ := Aside0.mk (Kd.R_below (by (with_reducible repeat (first | apply Kd.R_alloc | apply Kd.R_drewN | apply Kd.R_drew | apply Go.Proofs.YtdccnjinehcenaaW.Own.Fz.R_alloc | apply Go.Proofs.YtdccnjinehcenaaW.Own.Fz.R_drewN | apply Go.Proofs.YtdccnjinehcenaaW.Own.Fz.R_drew)); exact HO234.out) hb); have n3_ := Aside0.mk (below_step (by repeat (first | (with_reducible first | exact HB.out | apply below_alloc | apply pw_below_drewN | apply below_drew1) | exact HB.out)) hb); clear HO225; clear HO229; clear HO234; clear HB; have HO225 := n0_; have HO229 := n1_; have HO234 := n2_; have HB := n3_; clear n0_ n1_ n2_ n3_; (try clear hb); (try clear hb2); (try clear hk); (try clear hi)) | ((with_reducible refine gate_callee (f := 25) rfl ?_); refine goesL_ (some 51) rfl rfl Try.func25 (by kernel_rfl) rfl #[.int .i64 2, .string t235] rfl (by (try simp only [List.map_toArray, List.map_cons, List.map_nil]); first | done | rfl | (simp only [List.length_drop, List.length_take]; rfl)) ?_; (with_reducible refine (slot_Plan.calls k 2 t235 t236 t237 _ A10.out).mono ?_); rintro e w20 ⟨v238, rfl, ho0, hb⟩; refine ⟨_, rfl, ?_⟩; have n0_ := Aside0.mk (Kd.R_elder' (by (with_reducible repeat (first | apply Kd.R_alloc | apply Kd.R_drewN | apply Kd.R_drew | apply Go.Proofs.YtdccnjinehcenaaW.Own.Fz.R_alloc | apply Go.Proofs.YtdccnjinehcenaaW.Own.Fz.R_drewN | apply Go.Proofs.YtdccnjinehcenaaW.Own.Fz.R_drew)); exact HO225.out) (Kd.R_base ho0) hb); have n1_ := Aside0.mk (Kd.R_elder' (by (with_reducible repeat (first | apply Kd.R_alloc | apply Kd.R_drewN | apply Kd.R_drew | apply Go.Proofs.YtdccnjinehcenaaW.Own.Fz.R_alloc | apply Go.Proofs.YtdccnjinehcenaaW.Own.Fz.R_drewN | apply Go.Proofs.YtdccnjinehcenaaW.Own.Fz.R_drew)); exact HO229.out) (Kd.R_base ho0) hb); have n2_ := Aside0.mk (Kd.R_elder' (by (with_reducible repeat (first | apply Kd.R_alloc | apply Kd.R_drewN | apply Kd.R_drew | apply Go.Proofs.YtdccnjinehcenaaW.Own.Fz.R_alloc | apply Go.Proofs.YtdccnjinehcenaaW.Own.Fz.R_drewN | apply Go.Proofs.YtdccnjinehcenaaW.Own.Fz.R_drew)); exact HO234.out) (Kd.R_base ho0) hb); have n3_ := Aside0.mk (Kd.R_lower (Kd.R_new' (Kd.R_new' (Kd.R_new' ho0 (Kd.R_lt (by (with_reducible repeat (first | apply Kd.R_alloc | apply Kd.R_drewN | apply Kd.R_drew | apply Go.Proofs.YtdccnjinehcenaaW.Own.Fz.R_alloc | apply Go.Proofs.YtdccnjinehcenaaW.Own.Fz.R_drewN | apply Go.Proofs.YtdccnjinehcenaaW.Own.Fz.R_drew)); exact HO225.out))) (Kd.R_lt (by (with_reducible repeat (first | apply Kd.R_alloc | apply Kd.R_drewN | apply Kd.R_drew | apply Go.Proofs.YtdccnjinehcenaaW.Own.Fz.R_alloc | apply Go.Proofs.YtdccnjinehcenaaW.Own.Fz.R_drewN | apply Go.Proofs.YtdccnjinehcenaaW.Own.Fz.R_drew)); exact HO229.out))) (Kd.R_lt (by (with_reducible repeat (first | apply Kd.R_alloc | apply Kd.R_drewN | apply Kd.R_drew | apply Go.Proofs.YtdccnjinehcenaaW.Own.Fz.R_alloc | apply Go.Proofs.YtdccnjinehcenaaW.Own.Fz.R_drewN | apply Go.Proofs.YtdccnjinehcenaaW.Own.Fz.R_drew)); exact HO234.out))) (below_size (by repeat (first | (with_reducible first | exact HB.out | apply below_alloc | apply pw_below_drewN | apply below_drew1) | exact HB.out)))); have n4_ := Aside0.mk (below_step (by repeat (first | (with_reducible first | exact HB.out | apply below_alloc | apply pw_below_drewN | apply below_drew1) | exact HB.out)) hb); clear HO225; clear HO229; clear HO234; clear HB; have HO225 := n0_; have HO229 := n1_; have HO234 := n2_; have HO239 := n3_; have HB := n4_; clear n0_ n1_ n2_ n3_ n4_; (try clear hb); (try clear hb2); (try clear hk); (try clear hi); (try clear ho0)) | ((with_reducible refine gate_callee (f := 12) rfl ?_); refine goesL_ (some 55) rfl rfl Try.func12 (by kernel_rfl) rfl #[] rfl (by (try simp only [List.map_toArray, List.map_cons, List.map_nil]); first | done | rfl | (simp only [List.length_drop, List.length_take]; rfl)) ?_; (with_reducible refine (portageref17_NewDisk.calls k  t240 _ A11.out).mono ?_); rintro e w21 ⟨v241, rfl, ho0, hb⟩; refine ⟨_, rfl, ?_⟩; have n0_ := Aside0.mk (Kd.R_below (by (with_reducible repeat (first | apply Kd.R_alloc | apply Kd.R_drewN | apply Kd.R_drew | apply Go.Proofs.YtdccnjinehcenaaW.Own.Fz.R_alloc | apply Go.Proofs.YtdccnjinehcenaaW.Own.Fz.R_drewN | apply Go.Proofs.YtdccnjinehcenaaW.Own.Fz.R_drew)); exact HO225.out) hb); have n1_ := Aside0.mk (Kd.R_below (by (with_reducible repeat (first | apply Kd.R_alloc | apply Kd.R_drewN | apply Kd.R_drew | apply Go.Proofs.YtdccnjinehcenaaW.Own.Fz.R_alloc | apply Go.Proofs.YtdccnjinehcenaaW.Own.Fz.R_drewN | apply Go.Proofs.YtdccnjinehcenaaW.Own.Fz.R_drew)); exact HO229.out) hb); have n2_ := Aside0.mk (Kd.R_below (by (with_reducible repeat (first | apply Kd.R_alloc | apply Kd.R_drewN | apply Kd.R_drew | apply Go.Proofs.YtdccnjinehcenaaW.Own.Fz.R_alloc | apply Go.Proofs.YtdccnjinehcenaaW.Own.Fz.R_drewN | apply Go.Proofs.YtdccnjinehcenaaW.Own.Fz.R_drew)); exact HO234.out) hb); have n3_ := Aside0.mk (Kd.R_below (by (with_reducible repeat (first | apply Kd.R_alloc | apply Kd.R_drewN | apply Kd.R_drew | apply Go.Proofs.YtdccnjinehcenaaW.Own.Fz.R_alloc | apply Go.Proofs.YtdccnjinehcenaaW.Own.Fz.R_drewN | apply Go.Proofs.YtdccnjinehcenaaW.Own.Fz.R_drew)); exact HO239.out) hb); have n4_ := Aside0.mk (Kd.R_lower ho0 (below_size (by repeat (first | (with_reducible first | exact HB.out | apply below_alloc | apply pw_below_drewN | apply below_drew1) | exact HB.out)))); have n5_ := Aside0.mk (below_step (by repeat (first | (with_reducible first | exact HB.out | apply below_alloc | apply pw_below_drewN | apply below_drew1) | exact HB.out)) hb); clear HO225; clear HO229; clear HO234; clear HO239; clear HB; have HO225 := n0_; have HO229 := n1_; have HO234 := n2_; have HO239 := n3_; have HO242 := n4_; have HB := n5_; clear n0_ n1_ n2_ n3_ n4_ n5_; (try clear hb); (try clear hb2); (try clear hk); (try clear hi); (try clear ho0); obtain ⟨Ao22, co22, eo22⟩ := Kd.R_slice HO239.out; subst eo22; obtain ⟨Ao23, co23, eo23⟩ := Kd.R_slice HO242.out; subst eo23) | ((with_reducible refine gate_callee (f := 16) rfl ?_); refine goesL_ (some 59) rfl rfl Try.func16 (by kernel_rfl) rfl #[.slice Ao23 t240.length co23, .slice Ao22 t236.length co22, .int .i64 (t236.length : Int), .int .i64 0] rfl (by (try simp only [List.map_toArray, List.map_cons, List.map_nil]); first | done | rfl | (simp only [List.length_drop, List.length_take]; rfl)) ?_; (with_reducible refine (portageref17_Run.calls k _ _ t240 _ _ t236 (t236.length : Int) 0 t243 t244 _ ?side1 ?side2 ?side3 ?side4 A12.out).mono ?_); (case side1 => repeat (first | exact (Kd.R_reads' HO242.out).2.2 | (with_reducible refine Kd.C_alloc ?_ _) | (with_reducible refine Kd.C_drewN ?_ _) | (with_reducible refine Kd.C_drew ?_))); (case side2 => exact (Kd.R_reads' HO242.out).2.1); (case side3 => repeat (first | exact (Kd.R_reads' HO239.out).2.2 | (with_reducible refine Kd.C_alloc ?_ _) | (with_reducible refine Kd.C_drewN ?_ _) | (with_reducible refine Kd.C_drew ?_))); (case side4 => exact (Kd.R_reads' HO239.out).2.1); rintro e w24 ⟨v245, rfl, ho0, hb⟩; refine ⟨_, rfl, ?_⟩; have n0_ := Aside0.mk (Kd.R_below (by (with_reducible repeat (first | apply Kd.R_alloc | apply Kd.R_drewN | apply Kd.R_drew | apply Go.Proofs.YtdccnjinehcenaaW.Own.Fz.R_alloc | apply Go.Proofs.YtdccnjinehcenaaW.Own.Fz.R_drewN | apply Go.Proofs.YtdccnjinehcenaaW.Own.Fz.R_drew)); exact HO225.out) hb); have n1_ := Aside0.mk (Kd.R_below (by (with_reducible repeat (first | apply Kd.R_alloc | apply Kd.R_drewN | apply Kd.R_drew | apply Go.Proofs.YtdccnjinehcenaaW.Own.Fz.R_alloc | apply Go.Proofs.YtdccnjinehcenaaW.Own.Fz.R_drewN | apply Go.Proofs.YtdccnjinehcenaaW.Own.Fz.R_drew)); exact HO229.out) hb); have n2_ := Aside0.mk (Kd.R_below (by (with_reducible repeat (first | apply Kd.R_alloc | apply Kd.R_drewN | apply Kd.R_drew | apply Go.Proofs.YtdccnjinehcenaaW.Own.Fz.R_alloc | apply Go.Proofs.YtdccnjinehcenaaW.Own.Fz.R_drewN | apply Go.Proofs.YtdccnjinehcenaaW.Own.Fz.R_drew)); exact HO234.out) hb); have n3_ := Aside0.mk (Kd.R_below (by (with_reducible repeat (first | apply Kd.R_alloc | apply Kd.R_drewN | apply Kd.R_drew | apply Go.Proofs.YtdccnjinehcenaaW.Own.Fz.R_alloc | apply Go.Proofs.YtdccnjinehcenaaW.Own.Fz.R_drewN | apply Go.Proofs.YtdccnjinehcenaaW.Own.Fz.R_drew)); exact HO239.out) hb); have n4_ := Aside0.mk (Kd.R_elder' (by (with_reducible repeat (first | apply Kd.R_alloc | apply Kd.R_drewN | apply Kd.R_drew | apply Go.Proofs.YtdccnjinehcenaaW.Own.Fz.R_alloc | apply Go.Proofs.YtdccnjinehcenaaW.Own.Fz.R_drewN | apply Go.Proofs.YtdccnjinehcenaaW.Own.Fz.R_drew)); exact HO242.out) (Kd.R_base ho0) hb); have n5_ := Aside0.mk (Kd.R_lower (Kd.R_new' ho0 (Kd.R_lt (by (with_reducible repeat (first | apply Kd.R_alloc | apply Kd.R_drewN | apply Kd.R_drew | apply Go.Proofs.YtdccnjinehcenaaW.Own.Fz.R_alloc | apply Go.Proofs.YtdccnjinehcenaaW.Own.Fz.R_drewN | apply Go.Proofs.YtdccnjinehcenaaW.Own.Fz.R_drew)); exact HO242.out))) (below_size (by repeat (first | (with_reducible first | exact HB.out | apply below_alloc | apply pw_below_drewN | apply below_drew1) | exact HB.out)))); have n6_ := Aside0.mk (below_step (by repeat (first | (with_reducible first | exact HB.out | apply below_alloc | apply pw_below_drewN | apply below_drew1) | exact HB.out)) hb); clear HO225; clear HO229; clear HO234; clear HO239; clear HO242; clear HB; have HO225 := n0_; have HO229 := n1_; have HO234 := n2_; have HO239 := n3_; have HO242 := n4_; have HO246 := n5_; have HB := n6_; clear n0_ n1_ n2_ n3_ n4_ n5_ n6_; (try clear hb); (try clear hb2); (try clear hk); (try clear hi); (try clear ho0)))
    (try simp only [Act.put, List.setIfInBounds_toArray, List.set_cons_zero, List.set_cons_succ])
    go_cut [73] (fun v73 wc => ∃ (kq : Nat) (x73_12 : Bool), v73 = .bool x73_12 ∧ Aside0 (portagelaw18_SlotForms.j0 kq a0 t223 t227 t232 t243 x73_12 = some r) ∧ Aside0 (kq ≤ k) ∧ Aside0 (Kd.R Kd.string 9 wc w.heap.size (fun _ => True) v245 t243) ∧ Aside0 (Below w.heap.size w wc))
    case first =>
      have H := HC13.out
      clear HC13
      replace H := Option.bind_eq_some_iff.mp H
      obtain ⟨t247, A250, H⟩ := H
      replace H : (if t247 = 0 then (if t244 = 0 then (portagelaw18_SlotForms.j0 k a0 t223 t227 t232 t243 ((t236.length : Int) != 4)) else (portagelaw18_SlotForms.j0 k a0 t223 t227 t232 t243 true)) else (portagelaw18_SlotForms.j0 k a0 t223 t227 t232 t243 true)) = some r := H
      have A25 := Aside0.mk A250
      clear A250
      by_cases c26 : t247 = 0
      · rw [if_pos c26] at H
        have c26b0 : (t247 == 0) = true := beq_iff_eq.mpr c26
        have c26b1 : (t247 != 0) = false := bne_eq_false_iff_eq.mpr c26
        clear c26
        (first | rw [c26b0] | (simp only [i64_w, i32_w]; rw [c26b0]) | skip)
        by_cases c27 : t244 = 0
        · rw [if_pos c27] at H
          have c27b0 : (t244 == 0) = true := beq_iff_eq.mpr c27
          have c27b1 : (t244 != 0) = false := bne_eq_false_iff_eq.mpr c27
          clear c27
          have H' := Aside0.mk H
          clear H
          go_wp2_with (first | ((with_reducible refine gate_callee (f := 18) rfl ?_); refine goesL_ (some 63) rfl rfl Try.func18 (by kernel_rfl) rfl #[.int .i64 t237] rfl (by (try simp only [List.map_toArray, List.map_cons, List.map_nil]); first | done | rfl | (simp only [List.length_drop, List.length_take]; rfl)) ?_; (with_reducible refine (portagelaw0_Num.calls t237 t247 _ A25.out).mono ?_); rintro e w' ⟨rfl, ⟨nd, rfl⟩⟩; refine ⟨_, rfl, ?_⟩))
          go_meet
          case rel => exact ⟨_, (((t236.length : Int) != 4)), (by first | rfl | (simp; done) | (simp [*]; done)), H', ⟨by first | omega | exact Nat.le_refl _⟩, ⟨by (with_reducible repeat (first | apply Kd.R_alloc | apply Kd.R_drewN | apply Kd.R_drew | apply Go.Proofs.YtdccnjinehcenaaW.Own.Fz.R_alloc | apply Go.Proofs.YtdccnjinehcenaaW.Own.Fz.R_drewN | apply Go.Proofs.YtdccnjinehcenaaW.Own.Fz.R_drew)); exact Kd.R_mono HO246.out (fun _ hk => trivial)⟩, ⟨by repeat (first | (with_reducible first | exact HB.out | apply below_alloc | apply pw_below_drewN | apply below_drew1) | exact HB.out)⟩⟩
        · rw [if_neg c27] at H
          have c27b0 : (t244 == 0) = false := beq_eq_false_iff_ne.mpr c27
          have c27b1 : (t244 != 0) = true := bne_iff_ne.mpr c27
          have H' := Aside0.mk H
          clear H
          go_wp2_with (first | ((with_reducible refine gate_callee (f := 18) rfl ?_); refine goesL_ (some 63) rfl rfl Try.func18 (by kernel_rfl) rfl #[.int .i64 t237] rfl (by (try simp only [List.map_toArray, List.map_cons, List.map_nil]); first | done | rfl | (simp only [List.length_drop, List.length_take]; rfl)) ?_; (with_reducible refine (portagelaw0_Num.calls t237 t247 _ A25.out).mono ?_); rintro e w' ⟨rfl, ⟨nd, rfl⟩⟩; refine ⟨_, rfl, ?_⟩))
          go_meet
          case rel => exact ⟨_, (true), (by first | rfl | (simp; done) | (simp [*]; done)), H', ⟨by first | omega | exact Nat.le_refl _⟩, ⟨by (with_reducible repeat (first | apply Kd.R_alloc | apply Kd.R_drewN | apply Kd.R_drew | apply Go.Proofs.YtdccnjinehcenaaW.Own.Fz.R_alloc | apply Go.Proofs.YtdccnjinehcenaaW.Own.Fz.R_drewN | apply Go.Proofs.YtdccnjinehcenaaW.Own.Fz.R_drew)); exact Kd.R_mono HO246.out (fun _ hk => trivial)⟩, ⟨by repeat (first | (with_reducible first | exact HB.out | apply below_alloc | apply pw_below_drewN | apply below_drew1) | exact HB.out)⟩⟩
      · rw [if_neg c26] at H
        have c26b0 : (t247 == 0) = false := beq_eq_false_iff_ne.mpr c26
        have c26b1 : (t247 != 0) = true := bne_iff_ne.mpr c26
        (first | rw [c26b0] | (simp only [i64_w, i32_w]; rw [c26b0]) | skip)
        have H' := Aside0.mk H
        clear H
        go_wp2_with (first | ((with_reducible refine gate_callee (f := 18) rfl ?_); refine goesL_ (some 63) rfl rfl Try.func18 (by kernel_rfl) rfl #[.int .i64 t237] rfl (by (try simp only [List.map_toArray, List.map_cons, List.map_nil]); first | done | rfl | (simp only [List.length_drop, List.length_take]; rfl)) ?_; (with_reducible refine (portagelaw0_Num.calls t237 t247 _ A25.out).mono ?_); rintro e w' ⟨rfl, ⟨nd, rfl⟩⟩; refine ⟨_, rfl, ?_⟩))
        go_meet
        case rel => exact ⟨_, (true), (by first | rfl | (simp; done) | (simp [*]; done)), H', ⟨by first | omega | exact Nat.le_refl _⟩, ⟨by (with_reducible repeat (first | apply Kd.R_alloc | apply Kd.R_drewN | apply Kd.R_drew | apply Go.Proofs.YtdccnjinehcenaaW.Own.Fz.R_alloc | apply Go.Proofs.YtdccnjinehcenaaW.Own.Fz.R_drewN | apply Go.Proofs.YtdccnjinehcenaaW.Own.Fz.R_drew)); exact Kd.R_mono HO246.out (fun _ hk => trivial)⟩, ⟨by repeat (first | (with_reducible first | exact HB.out | apply below_alloc | apply pw_below_drewN | apply below_drew1) | exact HB.out)⟩⟩
    case rest =>
      clear HC13
      try clear c1
      try clear c2
      try clear p2
      try clear c3
      try clear c4
      try clear p6
      try clear c9
      try clear c12
      try clear c16
      try clear c18
      try clear c25
      try clear c26
      try clear c26b0
      try clear c26b1
      try clear c27
      try clear c27b0
      try clear c27b1
      obtain ⟨kq, x73_12, rfl, HA, HJ12, HO_14, HB⟩ := hcut
      cases kq with
      | zero => exact absurd HA.out (by simp [portagelaw18_SlotForms.j0])
      | succ kj12 =>
        have H := HA.out
        clear HA
        simp only [portagelaw18_SlotForms.j0] at H
        by_cases c28 : x73_12 = true
        · subst c28
          have H1 : (none) = some r := by rw [if_pos rfl] at H; exact H
          clear H
          have H := H1
          clear H1
          exact absurd H (by simp)
        · replace c28 := Bool.eq_false_iff.mpr c28
          subst c28
          have H1 : (if 0 < (t243.length : Int) then (if (rdOf ByteArray.empty t243 0).size ≤ 9223372036854775807 then ((some (bytesOf (rdOf ByteArray.empty t243 0) : List Int)).bind fun y249 => ((some (([0, 1, 2, 3, 4, 8, 9, 30, 62, 63] : List Int) : List Int)).bind fun y252 => (if 0 ≤ (wrap64 (Int.tmod (IntKind.u64.wrap (a0)) 10)) then (if (wrap64 (Int.tmod (IntKind.u64.wrap (a0)) 10)) < (y252.length : Int) then (if 0 ≤ (rd y252 (wrap64 (Int.tmod (IntKind.u64.wrap (a0)) 10))) then (if (rd y252 (wrap64 (Int.tmod (IntKind.u64.wrap (a0)) 10))) < (y249.length : Int) then ((some (([] : List ByteArray) : List ByteArray)).bind fun y258 => (if y258.length + t243.length < 8796093022208 then ((some (y258 ++ t243 : List ByteArray)).bind fun y261 => (if 0 < (y261.length : Int) then ((slot_Find.f kj12 (y261.set (0 : Int).toNat (strOfNums (y249.set ((rd y252 (wrap64 (Int.tmod (IntKind.u64.wrap (a0)) 10))) : Int).toNat (Go.bits .xor .u8 (rd y249 (rd y252 (wrap64 (Int.tmod (IntKind.u64.wrap (a0)) 10)))) 128))))).bind fun bt265 => (if 129 ≤ (t243.length : Int) then ((slot_Find.f kj12 (t243.take 129)).bind fun bt272 => (if (rd y252 (wrap64 (Int.tmod (IntKind.u64.wrap (a0)) 10))) = 1 then ((portagelaw0_Num.f t223).bind fun t275 => (if t275 = 1800 then ((portagelaw0_Num.f t227).bind fun t276 => (if t276 = 1800 then ((portagelaw0_Num.f t232).bind fun t277 => (if t277 = 1800 then (if bt265.1 = 130 then ((portagelaw0_Num.f bt265.2.2).bind fun t278 => (if t278 = 0 then ((portagelaw0_Num.f bt272.2.2).bind fun t279 => (some (t279 == 1800))) else (none))) else (none)) else (none))) else (none))) else (none))) else (if (rd y252 (wrap64 (Int.tmod (IntKind.u64.wrap (a0)) 10))) = 2 then (portagelaw18_SlotForms.j1 kj12 t223 t227 t232 bt265.1 bt265.2.1 bt265.2.2 bt272.2.2 true) else (portagelaw18_SlotForms.j1 kj12 t223 t227 t232 bt265.1 bt265.2.1 bt265.2.2 bt272.2.2 ((rd y252 (wrap64 (Int.tmod (IntKind.u64.wrap (a0)) 10))) == 3))))) else (none))) else (none))) else (none))) else (none)) else (none)) else (none)) else (none)))) else (none)) else (none)) = some r := by rw [if_neg (show ¬ (false = true) by decide)] at H; exact H
          clear H
          have H := H1
          clear H1
          by_cases c29 : 0 < (t243.length : Int)
          · rw [if_pos c29] at H
            have c29b0 : decide (0 < (t243.length : Int)) = true := decide_eq_true c29
            have c29b1 : decide (0 < t243.length) = true := decide_eq_true (by omega)
            clear c29
            by_cases c30 : (rdOf ByteArray.empty t243 0).size ≤ 9223372036854775807
            · rw [if_pos c30] at H
              have c30b0 := eq_true c30
              have c30b1 : decide ((rdOf ByteArray.empty t243 0).size ≤ 9223372036854775807) = true := decide_eq_true c30
              try have c30b2 : (9223372036854775807 < (rdOf ByteArray.empty t243 0).size) = False := eq_false (Nat.not_lt.2 c30)
              clear c30
              obtain ⟨y249, hy249⟩ : ∃ y_ : List Int, y_ = (bytesOf (rdOf ByteArray.empty t243 0)) := ⟨_, rfl⟩
              replace H : ((some (([0, 1, 2, 3, 4, 8, 9, 30, 62, 63] : List Int) : List Int)).bind fun y252 => (if 0 ≤ (wrap64 (Int.tmod (IntKind.u64.wrap (a0)) 10)) then (if (wrap64 (Int.tmod (IntKind.u64.wrap (a0)) 10)) < (y252.length : Int) then (if 0 ≤ (rd y252 (wrap64 (Int.tmod (IntKind.u64.wrap (a0)) 10))) then (if (rd y252 (wrap64 (Int.tmod (IntKind.u64.wrap (a0)) 10))) < (y249.length : Int) then ((some (([] : List ByteArray) : List ByteArray)).bind fun y258 => (if y258.length + t243.length < 8796093022208 then ((some (y258 ++ t243 : List ByteArray)).bind fun y261 => (if 0 < (y261.length : Int) then ((slot_Find.f kj12 (y261.set (0 : Int).toNat (strOfNums (y249.set ((rd y252 (wrap64 (Int.tmod (IntKind.u64.wrap (a0)) 10))) : Int).toNat (Go.bits .xor .u8 (rd y249 (rd y252 (wrap64 (Int.tmod (IntKind.u64.wrap (a0)) 10)))) 128))))).bind fun bt265 => (if 129 ≤ (t243.length : Int) then ((slot_Find.f kj12 (t243.take 129)).bind fun bt272 => (if (rd y252 (wrap64 (Int.tmod (IntKind.u64.wrap (a0)) 10))) = 1 then ((portagelaw0_Num.f t223).bind fun t275 => (if t275 = 1800 then ((portagelaw0_Num.f t227).bind fun t276 => (if t276 = 1800 then ((portagelaw0_Num.f t232).bind fun t277 => (if t277 = 1800 then (if bt265.1 = 130 then ((portagelaw0_Num.f bt265.2.2).bind fun t278 => (if t278 = 0 then ((portagelaw0_Num.f bt272.2.2).bind fun t279 => (some (t279 == 1800))) else (none))) else (none)) else (none))) else (none))) else (none))) else (if (rd y252 (wrap64 (Int.tmod (IntKind.u64.wrap (a0)) 10))) = 2 then (portagelaw18_SlotForms.j1 kj12 t223 t227 t232 bt265.1 bt265.2.1 bt265.2.2 bt272.2.2 true) else (portagelaw18_SlotForms.j1 kj12 t223 t227 t232 bt265.1 bt265.2.1 bt265.2.2 bt272.2.2 ((rd y252 (wrap64 (Int.tmod (IntKind.u64.wrap (a0)) 10))) == 3))))) else (none))) else (none))) else (none))) else (none)) else (none)) else (none)) else (none))) = some r := by first | (rw [hy249]; with_reducible exact H) | (have H2_ := (Option.bind_some _ _).symm.trans H; rw [hy249]; with_reducible exact H2_) | (have H2_ := (Option.bind_some _ _).symm.trans H; with_reducible exact H2_) | with_reducible exact H | (rw [hy249]; exact H) | exact H
              have Ny249 := Aside0.mk hy249
              clear hy249
              obtain ⟨y252, hy252⟩ : ∃ y_ : List Int, y_ = (([0, 1, 2, 3, 4, 8, 9, 30, 62, 63] : List Int)) := ⟨_, rfl⟩
              replace H : (if 0 ≤ (wrap64 (Int.tmod (IntKind.u64.wrap (a0)) 10)) then (if (wrap64 (Int.tmod (IntKind.u64.wrap (a0)) 10)) < (y252.length : Int) then (if 0 ≤ (rd y252 (wrap64 (Int.tmod (IntKind.u64.wrap (a0)) 10))) then (if (rd y252 (wrap64 (Int.tmod (IntKind.u64.wrap (a0)) 10))) < (y249.length : Int) then ((some (([] : List ByteArray) : List ByteArray)).bind fun y258 => (if y258.length + t243.length < 8796093022208 then ((some (y258 ++ t243 : List ByteArray)).bind fun y261 => (if 0 < (y261.length : Int) then ((slot_Find.f kj12 (y261.set (0 : Int).toNat (strOfNums (y249.set ((rd y252 (wrap64 (Int.tmod (IntKind.u64.wrap (a0)) 10))) : Int).toNat (Go.bits .xor .u8 (rd y249 (rd y252 (wrap64 (Int.tmod (IntKind.u64.wrap (a0)) 10)))) 128))))).bind fun bt265 => (if 129 ≤ (t243.length : Int) then ((slot_Find.f kj12 (t243.take 129)).bind fun bt272 => (if (rd y252 (wrap64 (Int.tmod (IntKind.u64.wrap (a0)) 10))) = 1 then ((portagelaw0_Num.f t223).bind fun t275 => (if t275 = 1800 then ((portagelaw0_Num.f t227).bind fun t276 => (if t276 = 1800 then ((portagelaw0_Num.f t232).bind fun t277 => (if t277 = 1800 then (if bt265.1 = 130 then ((portagelaw0_Num.f bt265.2.2).bind fun t278 => (if t278 = 0 then ((portagelaw0_Num.f bt272.2.2).bind fun t279 => (some (t279 == 1800))) else (none))) else (none)) else (none))) else (none))) else (none))) else (if (rd y252 (wrap64 (Int.tmod (IntKind.u64.wrap (a0)) 10))) = 2 then (portagelaw18_SlotForms.j1 kj12 t223 t227 t232 bt265.1 bt265.2.1 bt265.2.2 bt272.2.2 true) else (portagelaw18_SlotForms.j1 kj12 t223 t227 t232 bt265.1 bt265.2.1 bt265.2.2 bt272.2.2 ((rd y252 (wrap64 (Int.tmod (IntKind.u64.wrap (a0)) 10))) == 3))))) else (none))) else (none))) else (none))) else (none)) else (none)) else (none)) else (none)) = some r := by first | (rw [hy252]; with_reducible exact H) | (have H2_ := (Option.bind_some _ _).symm.trans H; rw [hy252]; with_reducible exact H2_) | (have H2_ := (Option.bind_some _ _).symm.trans H; with_reducible exact H2_) | with_reducible exact H | (rw [hy252]; exact H) | exact H
              have Ny252 := Aside0.mk hy252
              clear hy252
              obtain ⟨ji31, hji31⟩ : ∃ j_ : Int, (wrap64 (Int.tmod (IntKind.u64.wrap (a0)) 10)) = j_ := ⟨_, rfl⟩
              replace H : (if 0 ≤ (ji31) then (if (ji31) < (y252.length : Int) then (if 0 ≤ (rd y252 (ji31)) then (if (rd y252 (ji31)) < (y249.length : Int) then ((some (([] : List ByteArray) : List ByteArray)).bind fun y258 => (if y258.length + t243.length < 8796093022208 then ((some (y258 ++ t243 : List ByteArray)).bind fun y261 => (if 0 < (y261.length : Int) then ((slot_Find.f kj12 (y261.set (0 : Int).toNat (strOfNums (y249.set ((rd y252 (ji31)) : Int).toNat (Go.bits .xor .u8 (rd y249 (rd y252 (ji31))) 128))))).bind fun bt265 => (if 129 ≤ (t243.length : Int) then ((slot_Find.f kj12 (t243.take 129)).bind fun bt272 => (if (rd y252 (ji31)) = 1 then ((portagelaw0_Num.f t223).bind fun t275 => (if t275 = 1800 then ((portagelaw0_Num.f t227).bind fun t276 => (if t276 = 1800 then ((portagelaw0_Num.f t232).bind fun t277 => (if t277 = 1800 then (if bt265.1 = 130 then ((portagelaw0_Num.f bt265.2.2).bind fun t278 => (if t278 = 0 then ((portagelaw0_Num.f bt272.2.2).bind fun t279 => (some (t279 == 1800))) else (none))) else (none)) else (none))) else (none))) else (none))) else (if (rd y252 (ji31)) = 2 then (portagelaw18_SlotForms.j1 kj12 t223 t227 t232 bt265.1 bt265.2.1 bt265.2.2 bt272.2.2 true) else (portagelaw18_SlotForms.j1 kj12 t223 t227 t232 bt265.1 bt265.2.1 bt265.2.2 bt272.2.2 ((rd y252 (ji31)) == 3))))) else (none))) else (none))) else (none))) else (none)) else (none)) else (none)) else (none)) = some r := by first | (rw [hji31] at H; exact H) | (simp only [hji31] at H ⊢; exact H)
              have hji31w : (IntKind.i64.wrap (Int.tmod (IntKind.u64.wrap (a0)) 10)) = ji31 := (i64_w _).trans hji31
              by_cases c32 : 0 ≤ (ji31)
              · rw [if_pos c32] at H
                have c32b0 : decide (0 ≤ (ji31)) = true := decide_eq_true c32
                clear c32
                by_cases c33 : (ji31) < (y252.length : Int)
                · rw [if_pos c33] at H
                  have c33b0 : decide ((ji31) < (y252.length : Int)) = true := decide_eq_true c33
                  clear c33
                  by_cases c34 : 0 ≤ (rd y252 (ji31))
                  · rw [if_pos c34] at H
                    have c34b0 : decide (0 ≤ (rd y252 (ji31))) = true := decide_eq_true c34
                    clear c34
                    by_cases c35 : (rd y252 (ji31)) < (y249.length : Int)
                    · rw [if_pos c35] at H
                      have c35b0 : decide ((rd y252 (ji31)) < (y249.length : Int)) = true := decide_eq_true c35
                      clear c35
                      obtain ⟨y257, hy257⟩ : ∃ y_ : List Int, y_ = (y249.set ((rd y252 (ji31)) : Int).toNat (Go.bits .xor .u8 (rd y249 (rd y252 (ji31))) 128)) := ⟨_, rfl⟩
                      replace H : ((some (([] : List ByteArray) : List ByteArray)).bind fun y258 => (if y258.length + t243.length < 8796093022208 then ((some (y258 ++ t243 : List ByteArray)).bind fun y261 => (if 0 < (y261.length : Int) then ((slot_Find.f kj12 (y261.set (0 : Int).toNat (strOfNums y257))).bind fun bt265 => (if 129 ≤ (t243.length : Int) then ((slot_Find.f kj12 (t243.take 129)).bind fun bt272 => (if (rd y252 (ji31)) = 1 then ((portagelaw0_Num.f t223).bind fun t275 => (if t275 = 1800 then ((portagelaw0_Num.f t227).bind fun t276 => (if t276 = 1800 then ((portagelaw0_Num.f t232).bind fun t277 => (if t277 = 1800 then (if bt265.1 = 130 then ((portagelaw0_Num.f bt265.2.2).bind fun t278 => (if t278 = 0 then ((portagelaw0_Num.f bt272.2.2).bind fun t279 => (some (t279 == 1800))) else (none))) else (none)) else (none))) else (none))) else (none))) else (if (rd y252 (ji31)) = 2 then (portagelaw18_SlotForms.j1 kj12 t223 t227 t232 bt265.1 bt265.2.1 bt265.2.2 bt272.2.2 true) else (portagelaw18_SlotForms.j1 kj12 t223 t227 t232 bt265.1 bt265.2.1 bt265.2.2 bt272.2.2 ((rd y252 (ji31)) == 3))))) else (none))) else (none))) else (none))) = some r := by first | (rw [hy257]; with_reducible exact H) | (have H2_ := (Option.bind_some _ _).symm.trans H; rw [hy257]; with_reducible exact H2_) | (have H2_ := (Option.bind_some _ _).symm.trans H; with_reducible exact H2_) | with_reducible exact H | (rw [hy257]; exact H) | exact H
                      have Ny257 := Aside0.mk hy257
                      clear hy257
                      obtain ⟨y258, hy258⟩ : ∃ y_ : List ByteArray, y_ = (([] : List ByteArray)) := ⟨_, rfl⟩
                      replace H : (if y258.length + t243.length < 8796093022208 then ((some (y258 ++ t243 : List ByteArray)).bind fun y261 => (if 0 < (y261.length : Int) then ((slot_Find.f kj12 (y261.set (0 : Int).toNat (strOfNums y257))).bind fun bt265 => (if 129 ≤ (t243.length : Int) then ((slot_Find.f kj12 (t243.take 129)).bind fun bt272 => (if (rd y252 (ji31)) = 1 then ((portagelaw0_Num.f t223).bind fun t275 => (if t275 = 1800 then ((portagelaw0_Num.f t227).bind fun t276 => (if t276 = 1800 then ((portagelaw0_Num.f t232).bind fun t277 => (if t277 = 1800 then (if bt265.1 = 130 then ((portagelaw0_Num.f bt265.2.2).bind fun t278 => (if t278 = 0 then ((portagelaw0_Num.f bt272.2.2).bind fun t279 => (some (t279 == 1800))) else (none))) else (none)) else (none))) else (none))) else (none))) else (if (rd y252 (ji31)) = 2 then (portagelaw18_SlotForms.j1 kj12 t223 t227 t232 bt265.1 bt265.2.1 bt265.2.2 bt272.2.2 true) else (portagelaw18_SlotForms.j1 kj12 t223 t227 t232 bt265.1 bt265.2.1 bt265.2.2 bt272.2.2 ((rd y252 (ji31)) == 3))))) else (none))) else (none))) else (none)) = some r := by first | (rw [hy258]; with_reducible exact H) | (have H2_ := (Option.bind_some _ _).symm.trans H; rw [hy258]; with_reducible exact H2_) | (have H2_ := (Option.bind_some _ _).symm.trans H; with_reducible exact H2_) | with_reducible exact H | (rw [hy258]; exact H) | exact H
                      have Ny258 := Aside0.mk hy258
                      clear hy258
                      by_cases c37 : y258.length + t243.length < 8796093022208
                      · rw [if_pos c37] at H
                        have LMc37 := Aside0.mk c37
                        clear c37
                        obtain ⟨y261, hy261⟩ : ∃ y_ : List ByteArray, y_ = (y258 ++ t243) := ⟨_, rfl⟩
                        replace H : (if 0 < (y261.length : Int) then ((slot_Find.f kj12 (y261.set (0 : Int).toNat (strOfNums y257))).bind fun bt265 => (if 129 ≤ (t243.length : Int) then ((slot_Find.f kj12 (t243.take 129)).bind fun bt272 => (if (rd y252 (ji31)) = 1 then ((portagelaw0_Num.f t223).bind fun t275 => (if t275 = 1800 then ((portagelaw0_Num.f t227).bind fun t276 => (if t276 = 1800 then ((portagelaw0_Num.f t232).bind fun t277 => (if t277 = 1800 then (if bt265.1 = 130 then ((portagelaw0_Num.f bt265.2.2).bind fun t278 => (if t278 = 0 then ((portagelaw0_Num.f bt272.2.2).bind fun t279 => (some (t279 == 1800))) else (none))) else (none)) else (none))) else (none))) else (none))) else (if (rd y252 (ji31)) = 2 then (portagelaw18_SlotForms.j1 kj12 t223 t227 t232 bt265.1 bt265.2.1 bt265.2.2 bt272.2.2 true) else (portagelaw18_SlotForms.j1 kj12 t223 t227 t232 bt265.1 bt265.2.1 bt265.2.2 bt272.2.2 ((rd y252 (ji31)) == 3))))) else (none))) else (none)) = some r := by first | (rw [hy261]; with_reducible exact H) | (have H2_ := (Option.bind_some _ _).symm.trans H; rw [hy261]; with_reducible exact H2_) | (have H2_ := (Option.bind_some _ _).symm.trans H; with_reducible exact H2_) | with_reducible exact H | (rw [hy261]; exact H) | exact H
                        have Ny261 := Aside0.mk hy261
                        clear hy261
                        by_cases c38 : 0 < (y261.length : Int)
                        · rw [if_pos c38] at H
                          have c38b0 : decide (0 < (y261.length : Int)) = true := decide_eq_true c38
                          have c38b1 : decide (0 < y261.length) = true := decide_eq_true (by omega)
                          clear c38
                          obtain ⟨y264, hy264⟩ : ∃ y_ : List ByteArray, y_ = (y261.set (0 : Int).toNat (strOfNums y257)) := ⟨_, rfl⟩
                          replace H : ((slot_Find.f kj12 y264).bind fun bt265 => (if 129 ≤ (t243.length : Int) then ((slot_Find.f kj12 (t243.take 129)).bind fun bt272 => (if (rd y252 (ji31)) = 1 then ((portagelaw0_Num.f t223).bind fun t275 => (if t275 = 1800 then ((portagelaw0_Num.f t227).bind fun t276 => (if t276 = 1800 then ((portagelaw0_Num.f t232).bind fun t277 => (if t277 = 1800 then (if bt265.1 = 130 then ((portagelaw0_Num.f bt265.2.2).bind fun t278 => (if t278 = 0 then ((portagelaw0_Num.f bt272.2.2).bind fun t279 => (some (t279 == 1800))) else (none))) else (none)) else (none))) else (none))) else (none))) else (if (rd y252 (ji31)) = 2 then (portagelaw18_SlotForms.j1 kj12 t223 t227 t232 bt265.1 bt265.2.1 bt265.2.2 bt272.2.2 true) else (portagelaw18_SlotForms.j1 kj12 t223 t227 t232 bt265.1 bt265.2.1 bt265.2.2 bt272.2.2 ((rd y252 (ji31)) == 3))))) else (none))) = some r := by first | (rw [hy264]; with_reducible exact H) | (have H2_ := (Option.bind_some _ _).symm.trans H; rw [hy264]; with_reducible exact H2_) | (have H2_ := (Option.bind_some _ _).symm.trans H; with_reducible exact H2_) | with_reducible exact H | (rw [hy264]; exact H) | exact H
                          have Ny264 := Aside0.mk hy264
                          clear hy264
                          replace H := Option.bind_eq_some_iff.mp H
                          obtain ⟨⟨t265, t266, t267⟩, A400, H⟩ := H
                          replace H : (if 129 ≤ (t243.length : Int) then ((slot_Find.f kj12 (t243.take 129)).bind fun bt272 => (if (rd y252 (ji31)) = 1 then ((portagelaw0_Num.f t223).bind fun t275 => (if t275 = 1800 then ((portagelaw0_Num.f t227).bind fun t276 => (if t276 = 1800 then ((portagelaw0_Num.f t232).bind fun t277 => (if t277 = 1800 then (if t265 = 130 then ((portagelaw0_Num.f t267).bind fun t278 => (if t278 = 0 then ((portagelaw0_Num.f bt272.2.2).bind fun t279 => (some (t279 == 1800))) else (none))) else (none)) else (none))) else (none))) else (none))) else (if (rd y252 (ji31)) = 2 then (portagelaw18_SlotForms.j1 kj12 t223 t227 t232 t265 t266 t267 bt272.2.2 true) else (portagelaw18_SlotForms.j1 kj12 t223 t227 t232 t265 t266 t267 bt272.2.2 ((rd y252 (ji31)) == 3))))) else (none)) = some r := H
                          have A40 := Aside0.mk A400
                          clear A400
                          by_cases c41 : 129 ≤ (t243.length : Int)
                          · rw [if_pos c41] at H
                            have c41b0 := eq_true c41
                            have c41b1 : decide (129 ≤ (t243.length : Int)) = true := decide_eq_true c41
                            clear c41
                            obtain ⟨y268, hy268⟩ : ∃ y_ : List ByteArray, y_ = (t243.take 129) := ⟨_, rfl⟩
                            replace H : ((slot_Find.f kj12 y268).bind fun bt272 => (if (rd y252 (ji31)) = 1 then ((portagelaw0_Num.f t223).bind fun t275 => (if t275 = 1800 then ((portagelaw0_Num.f t227).bind fun t276 => (if t276 = 1800 then ((portagelaw0_Num.f t232).bind fun t277 => (if t277 = 1800 then (if t265 = 130 then ((portagelaw0_Num.f t267).bind fun t278 => (if t278 = 0 then ((portagelaw0_Num.f bt272.2.2).bind fun t279 => (some (t279 == 1800))) else (none))) else (none)) else (none))) else (none))) else (none))) else (if (rd y252 (ji31)) = 2 then (portagelaw18_SlotForms.j1 kj12 t223 t227 t232 t265 t266 t267 bt272.2.2 true) else (portagelaw18_SlotForms.j1 kj12 t223 t227 t232 t265 t266 t267 bt272.2.2 ((rd y252 (ji31)) == 3))))) = some r := by first | (rw [hy268]; with_reducible exact H) | (have H2_ := (Option.bind_some _ _).symm.trans H; rw [hy268]; with_reducible exact H2_) | (have H2_ := (Option.bind_some _ _).symm.trans H; with_reducible exact H2_) | with_reducible exact H | (rw [hy268]; exact H) | exact H
                            have Ny268 := Aside0.mk hy268
                            clear hy268
                            replace H := Option.bind_eq_some_iff.mp H
                            obtain ⟨⟨t272, t273, t274⟩, A420, H⟩ := H
                            replace H : (if (rd y252 (ji31)) = 1 then ((portagelaw0_Num.f t223).bind fun t275 => (if t275 = 1800 then ((portagelaw0_Num.f t227).bind fun t276 => (if t276 = 1800 then ((portagelaw0_Num.f t232).bind fun t277 => (if t277 = 1800 then (if t265 = 130 then ((portagelaw0_Num.f t267).bind fun t278 => (if t278 = 0 then ((portagelaw0_Num.f t274).bind fun t279 => (some (t279 == 1800))) else (none))) else (none)) else (none))) else (none))) else (none))) else (if (rd y252 (ji31)) = 2 then (portagelaw18_SlotForms.j1 kj12 t223 t227 t232 t265 t266 t267 t274 true) else (portagelaw18_SlotForms.j1 kj12 t223 t227 t232 t265 t266 t267 t274 ((rd y252 (ji31)) == 3)))) = some r := H
                            have A42 := Aside0.mk A420
                            clear A420
                            by_cases c43 : (rd y252 (ji31)) = 1
                            · rw [if_pos c43] at H
                              have c43b0 : ((rd y252 (ji31)) == 1) = true := beq_iff_eq.mpr c43
                              have c43b1 : ((rd y252 (ji31)) != 1) = false := bne_eq_false_iff_eq.mpr c43
                              clear c43
                              replace H := Option.bind_eq_some_iff.mp H
                              obtain ⟨t275, A440, H⟩ := H
                              replace H : (if t275 = 1800 then ((portagelaw0_Num.f t227).bind fun t276 => (if t276 = 1800 then ((portagelaw0_Num.f t232).bind fun t277 => (if t277 = 1800 then (if t265 = 130 then ((portagelaw0_Num.f t267).bind fun t278 => (if t278 = 0 then ((portagelaw0_Num.f t274).bind fun t279 => (some (t279 == 1800))) else (none))) else (none)) else (none))) else (none))) else (none)) = some r := H
                              have A44 := Aside0.mk A440
                              clear A440
                              by_cases c45 : t275 = 1800
                              · rw [if_pos c45] at H
                                have c45b0 : (t275 == 1800) = true := beq_iff_eq.mpr c45
                                have c45b1 : (t275 != 1800) = false := bne_eq_false_iff_eq.mpr c45
                                clear c45
                                replace H := Option.bind_eq_some_iff.mp H
                                obtain ⟨t276, A460, H⟩ := H
                                replace H : (if t276 = 1800 then ((portagelaw0_Num.f t232).bind fun t277 => (if t277 = 1800 then (if t265 = 130 then ((portagelaw0_Num.f t267).bind fun t278 => (if t278 = 0 then ((portagelaw0_Num.f t274).bind fun t279 => (some (t279 == 1800))) else (none))) else (none)) else (none))) else (none)) = some r := H
                                have A46 := Aside0.mk A460
                                clear A460
                                by_cases c47 : t276 = 1800
                                · rw [if_pos c47] at H
                                  have c47b0 : (t276 == 1800) = true := beq_iff_eq.mpr c47
                                  have c47b1 : (t276 != 1800) = false := bne_eq_false_iff_eq.mpr c47
                                  clear c47
                                  replace H := Option.bind_eq_some_iff.mp H
                                  obtain ⟨t277, A480, H⟩ := H
                                  replace H : (if t277 = 1800 then (if t265 = 130 then ((portagelaw0_Num.f t267).bind fun t278 => (if t278 = 0 then ((portagelaw0_Num.f t274).bind fun t279 => (some (t279 == 1800))) else (none))) else (none)) else (none)) = some r := H
                                  have A48 := Aside0.mk A480
                                  clear A480
                                  by_cases c49 : t277 = 1800
                                  · rw [if_pos c49] at H
                                    have c49b0 : (t277 == 1800) = true := beq_iff_eq.mpr c49
                                    have c49b1 : (t277 != 1800) = false := bne_eq_false_iff_eq.mpr c49
                                    clear c49
                                    by_cases c50 : t265 = 130
                                    · rw [if_pos c50] at H
                                      have c50b0 : (t265 == 130) = true := beq_iff_eq.mpr c50
                                      have c50b1 : (t265 != 130) = false := bne_eq_false_iff_eq.mpr c50
                                      clear c50
                                      replace H := Option.bind_eq_some_iff.mp H
                                      obtain ⟨t278, A510, H⟩ := H
                                      replace H : (if t278 = 0 then ((portagelaw0_Num.f t274).bind fun t279 => (some (t279 == 1800))) else (none)) = some r := H
                                      have A51 := Aside0.mk A510
                                      clear A510
                                      by_cases c52 : t278 = 0
                                      · rw [if_pos c52] at H
                                        have c52b0 : (t278 == 0) = true := beq_iff_eq.mpr c52
                                        have c52b1 : (t278 != 0) = false := bne_eq_false_iff_eq.mpr c52
                                        clear c52
                                        replace H := Option.bind_eq_some_iff.mp H
                                        obtain ⟨t279, A530, H⟩ := H
                                        replace H : (some (t279 == 1800)) = some r := H
                                        have A53 := Aside0.mk A530
                                        clear A530
                                        obtain rfl := Option.some.inj H
                                        obtain ⟨Ao54, co54, eo54⟩ := Kd.R_slice HO_14.out
                                        subst eo54
                                        have p248 : 0 ≤ (0 : Int) := (by omega)
                                        have q248 : 0 < (t243.length : Int) := of_decide_eq_true (by first | (with_reducible assumption) | assumption)
                                        obtain ⟨ad248, e248, hx248_0⟩ := Kd.at_string (Kd.R_reads' HO_14.out).2.2 0 p248 q248
                                        cases e248
                                        have qi248 : (0 < t243.length) = True := eq_true (by omega)
                                        (try rw [show ((0 : Int)).toNat = 0 from rfl] at hx248_0)
                                        (try rw [Addr.add_zero'] at hx248_0)
                                        replace p248 := eq_true p248
                                        replace q248 := eq_true q248
                                        go_wp2_with (first | ((with_reducible refine gate_dst (N := 77) rfl ?_); (try (refine gate_guard (by rfl) ?_; dsimp only)); refine Go.Proofs.YtdccnjinehcenaaW.Own.Fz.bytes_event ?hg (N := 77) ?hd (s := (rdOf ByteArray.empty t243 0)) (e := 5) ?hz ?hr ?_; (case hd => rfl); (case hg => rfl); (case hz => exact (of_decide_eq_true (by first | (with_reducible assumption) | assumption))); (case hr => go_simp; rw [(print_bytes (P := Try.prog) 9 43 5 Try.underlying9 Try.underlying43 Try.underlying5 _ _)]; rfl); intro v250 w55 ho56 hb hg_ hnew_; clear hg_ hnew_; (first | rw [← Ny249.out] at ho56 | (simp only [Int.reduceToNat] at ho56; rw [← Ny249.out] at ho56)); have n0_ := Aside0.mk (Kd.R_below (by (with_reducible repeat (first | apply Kd.R_alloc | apply Kd.R_drewN | apply Kd.R_drew | apply Go.Proofs.YtdccnjinehcenaaW.Own.Fz.R_alloc | apply Go.Proofs.YtdccnjinehcenaaW.Own.Fz.R_drewN | apply Go.Proofs.YtdccnjinehcenaaW.Own.Fz.R_drew)); exact HO_14.out) hb); have n1_ := Aside0.mk (Go.Proofs.YtdccnjinehcenaaW.Own.Fz.R_lower ho56 (below_size (by repeat (first | (with_reducible first | exact HB.out | apply below_alloc | apply pw_below_drewN | apply below_drew1) | exact HB.out)))); have n2_ := Aside0.mk (below_step (by repeat (first | (with_reducible first | exact HB.out | apply below_alloc | apply pw_below_drewN | apply below_drew1) | exact HB.out)) hb); clear HO_14; clear HB; have HO_14 := n0_; have HO251 := n1_; have HB := n2_; clear n0_ n1_ n2_; clear hb ho56) | ((with_reducible refine gate_dst (N := 78) rfl ?_); (try (refine gate_guard (by rfl) ?_; dsimp only)); refine Kd.R_lit (Kd.int .i64) _ 3 ?hg (N := 78) ?hd (xs := ([0, 1, 2, 3, 4, 8, 9, 30, 62, 63] : List Int)) (inner := [.int .i64 0, .int .i64 1, .int .i64 2, .int .i64 3, .int .i64 4, .int .i64 8, .int .i64 9, .int .i64 30, .int .i64 62, .int .i64 63]) (ok := fun _ => True) (okp := fun _ => True) ?hr ?hp (fun _ hk => hk) trivial (Below.refl _ _) (Nat.le_refl _) (by simp) ?_; (case hd => rfl); (case hg => rfl); (case hr => first | (go_simp; done) | (go_simp; rfl)); (case hp => exact (Reps.one (show Kd.M (Kd.int .i64) _ _ _ 0 [.int .i64 0] from rfl) (Reps.one (show Kd.M (Kd.int .i64) _ _ _ 1 [.int .i64 1] from rfl) (Reps.one (show Kd.M (Kd.int .i64) _ _ _ 2 [.int .i64 2] from rfl) (Reps.one (show Kd.M (Kd.int .i64) _ _ _ 3 [.int .i64 3] from rfl) (Reps.one (show Kd.M (Kd.int .i64) _ _ _ 4 [.int .i64 4] from rfl) (Reps.one (show Kd.M (Kd.int .i64) _ _ _ 8 [.int .i64 8] from rfl) (Reps.one (show Kd.M (Kd.int .i64) _ _ _ 9 [.int .i64 9] from rfl) (Reps.one (show Kd.M (Kd.int .i64) _ _ _ 30 [.int .i64 30] from rfl) (Reps.one (show Kd.M (Kd.int .i64) _ _ _ 62 [.int .i64 62] from rfl) (Reps.one (show Kd.M (Kd.int .i64) _ _ _ 63 [.int .i64 63] from rfl) (Reps.none _ _)))))))))))); intro v253 w57 ho58 hb hg_ hnew_; clear hg_ hnew_; (first | rw [← Ny252.out] at ho58 | (simp only [Int.reduceToNat] at ho58; rw [← Ny252.out] at ho58)); have n0_ := Aside0.mk (Kd.R_below (by (with_reducible repeat (first | apply Kd.R_alloc | apply Kd.R_drewN | apply Kd.R_drew | apply Go.Proofs.YtdccnjinehcenaaW.Own.Fz.R_alloc | apply Go.Proofs.YtdccnjinehcenaaW.Own.Fz.R_drewN | apply Go.Proofs.YtdccnjinehcenaaW.Own.Fz.R_drew)); exact HO_14.out) hb); have n1_ := Aside0.mk (Go.Proofs.YtdccnjinehcenaaW.Own.Fz.R_below (by (with_reducible repeat (first | apply Kd.R_alloc | apply Kd.R_drewN | apply Kd.R_drew | apply Go.Proofs.YtdccnjinehcenaaW.Own.Fz.R_alloc | apply Go.Proofs.YtdccnjinehcenaaW.Own.Fz.R_drewN | apply Go.Proofs.YtdccnjinehcenaaW.Own.Fz.R_drew)); exact HO251.out) hb); have n2_ := Aside0.mk (Kd.R_lower ho58 (below_size (by repeat (first | (with_reducible first | exact HB.out | apply below_alloc | apply pw_below_drewN | apply below_drew1) | exact HB.out)))); have n3_ := Aside0.mk (below_step (by repeat (first | (with_reducible first | exact HB.out | apply below_alloc | apply pw_below_drewN | apply below_drew1) | exact HB.out)) hb); clear HO_14; clear HO251; clear HB; have HO_14 := n0_; have HO251 := n1_; have HO254 := n2_; have HB := n3_; clear n0_ n1_ n2_ n3_; clear hb ho58; obtain ⟨Ao59, co59, eo59⟩ := Kd.R_slice HO254.out; subst eo59; have p255 : 0 ≤ ((ji31) : Int) := of_decide_eq_true (by first | (with_reducible assumption) | assumption); have q255 : (ji31) < (y252.length : Int) := of_decide_eq_true (by first | (with_reducible assumption) | assumption); obtain ⟨ad255, e255, hx255_0⟩ := Kd.at_int (Kd.R_reads' HO254.out).2.2 (ji31) p255 q255; cases e255; replace p255 := eq_true p255; replace q255 := eq_true q255; obtain ⟨Ao60, co60, eo60⟩ := Go.Proofs.YtdccnjinehcenaaW.Own.Fz.R_slice HO251.out; subst eo60; have p256 : 0 ≤ ((rd y252 (ji31)) : Int) := of_decide_eq_true (by first | (with_reducible assumption) | assumption); have q256 : (rd y252 (ji31)) < (y249.length : Int) := of_decide_eq_true (by first | (with_reducible assumption) | assumption); obtain ⟨ad256, e256, hx256_0⟩ := Kd.at_int (Go.Proofs.YtdccnjinehcenaaW.Own.Fz.R_reads' HO251.out).2.2 (rd y252 (ji31)) p256 q256; cases e256; replace p256 := eq_true p256; replace q256 := eq_true q256; have p36 : 0 ≤ ((rd y252 (ji31)) : Int) := of_decide_eq_true (by first | (with_reducible assumption) | assumption); have q36 : ((rd y252 (ji31)) : Int) < ((y249.length : Int) : Int) := of_decide_eq_true (by first | (with_reducible assumption) | assumption); obtain ⟨go36, co36, eo36, gb36, gl36, cl36, HG36⟩ := Go.Proofs.YtdccnjinehcenaaW.Own.Fz.R_form HO251.out (by omega); (first | cases eo36 | (injection eo36 with ea_ en_ ec_; (first | subst ea_ | (injection ea_ with ea_; subst ea_)); subst ec_; clear en_)); have GB36 := Aside0.mk gb36; have GG36 := Aside0.mk HG36; clear gb36 gl36 HG36; (first | simp only [add_plain] at hx256_0 | skip); obtain ⟨hx36_0, hf36_0⟩ := Go.Proofs.YtdccnjinehcenaaW.Own.Fz.R_celln 0 HO251.out ((rd y252 (ji31)) : Int) p36 q36; replace p36 := eq_true p36; replace q36 := eq_true q36; obtain ⟨hy61_, hz61_⟩ := Go.Proofs.YtdccnjinehcenaaW.Own.Fz.R_celln 0 HO251.out ((rd y252 (ji31)) : Int) (of_decide_eq_true (by first | (with_reducible assumption) | assumption)) (of_decide_eq_true (by first | (with_reducible assumption) | assumption)); have HP61 := Go.Proofs.YtdccnjinehcenaaW.Own.Fz.R_putg HO251.out ((rd y252 (ji31)) : Int) (Go.bits .xor .u8 (rd y249 (rd y252 (ji31))) 128)) | ((with_reducible refine gate_store (t := 5) (p := 92) rfl ?_); refine store_event (t := 5) (p := 92) (v := ?vo_w62) (w1 := (w57.setCell ⟨go36, ((rd y252 (ji31)) : Int).toNat, none⟩ (.int .u8 (Go.bits .xor .u8 (rd y249 (rd y252 (ji31))) 128)))) ?hg ?ho ?hn ?hr ?_; (case ho => rfl); (case hg => rfl); (case hn => rfl); (case hr => first | (go_simp; done) | (go_simp; rfl)); intro w62 hw; have hg : w57.grownBy w62 (some go36) := (by rw [hw]; exact HP61.2); have hp_ : Go.Proofs.YtdccnjinehcenaaW.Own.Fz.R (Kd.int .u8) 5 w62 w.heap.size (fun _ => True) (.slice (some ⟨go36, 0, none⟩) y249.length co60) y257 := (by rw [hw, Ny257.out]; exact HP61.1); clear HP61; have n0_ := Aside0.mk (Go.Proofs.YtdccnjinehcenaaW.Own.Fz.over_F (v := (.slice (some ⟨go36, 0, none⟩) y249.length co60)) (by (with_reducible repeat (first | apply Kd.R_alloc | apply Kd.R_drewN | apply Kd.R_drew | apply Go.Proofs.YtdccnjinehcenaaW.Own.Fz.R_alloc | apply Go.Proofs.YtdccnjinehcenaaW.Own.Fz.R_drewN | apply Go.Proofs.YtdccnjinehcenaaW.Own.Fz.R_drew)); exact HO_14.out) (Go.Proofs.YtdccnjinehcenaaW.Own.Fz.R_typedF HO251.out) (by decide) hg); have n1_ := Aside0.mk (hp_); have n2_ := Aside0.mk (Go.Proofs.YtdccnjinehcenaaW.Own.Fz.over_F (v := (.slice (some ⟨go36, 0, none⟩) y249.length co60)) (by (with_reducible repeat (first | apply Kd.R_alloc | apply Kd.R_drewN | apply Kd.R_drew | apply Go.Proofs.YtdccnjinehcenaaW.Own.Fz.R_alloc | apply Go.Proofs.YtdccnjinehcenaaW.Own.Fz.R_drewN | apply Go.Proofs.YtdccnjinehcenaaW.Own.Fz.R_drew)); exact HO254.out) (Go.Proofs.YtdccnjinehcenaaW.Own.Fz.R_typedF HO251.out) (by decide) hg); have n3_ := Aside0.mk ((by rw [hw]; exact below_set (HB.out) GB36.out : Below w.heap.size w w62)); clear HO_14; clear HO251; clear HO254; clear HB; have HO_14 := n0_; have HO251 := n1_; have HO254 := n2_; have HB := n3_; clear n0_ n1_ n2_ n3_; clear hg hw hp_) | ((with_reducible refine gate_dst (N := 93) rfl ?_); (try (refine gate_guard (by rfl) ?_; dsimp only)); refine Kd.R_lit Kd.string _ 9 ?hg (N := 93) ?hd (xs := ([] : List ByteArray)) (inner := []) (ok := fun _ => True) (okp := fun _ => True) ?hr ?hp (fun _ hk => hk) trivial (Below.refl _ _) (Nat.le_refl _) (by simp) ?_; (case hd => rfl); (case hg => rfl); (case hr => first | (go_simp; done) | (go_simp; rfl)); (case hp => exact (Reps.none _ _)); intro v259 w63 ho64 hb hg_ hnew_; clear hg_ hnew_; (first | rw [← Ny258.out] at ho64 | (simp only [Int.reduceToNat] at ho64; rw [← Ny258.out] at ho64)); have n0_ := Aside0.mk (Kd.R_elder' (by (with_reducible repeat (first | apply Kd.R_alloc | apply Kd.R_drewN | apply Kd.R_drew | apply Go.Proofs.YtdccnjinehcenaaW.Own.Fz.R_alloc | apply Go.Proofs.YtdccnjinehcenaaW.Own.Fz.R_drewN | apply Go.Proofs.YtdccnjinehcenaaW.Own.Fz.R_drew)); exact HO_14.out) (Kd.R_base ho64) hb); have n1_ := Aside0.mk (Go.Proofs.YtdccnjinehcenaaW.Own.Fz.R_below (by (with_reducible repeat (first | apply Kd.R_alloc | apply Kd.R_drewN | apply Kd.R_drew | apply Go.Proofs.YtdccnjinehcenaaW.Own.Fz.R_alloc | apply Go.Proofs.YtdccnjinehcenaaW.Own.Fz.R_drewN | apply Go.Proofs.YtdccnjinehcenaaW.Own.Fz.R_drew)); exact HO251.out) hb); have n2_ := Aside0.mk (Kd.R_below (by (with_reducible repeat (first | apply Kd.R_alloc | apply Kd.R_drewN | apply Kd.R_drew | apply Go.Proofs.YtdccnjinehcenaaW.Own.Fz.R_alloc | apply Go.Proofs.YtdccnjinehcenaaW.Own.Fz.R_drewN | apply Go.Proofs.YtdccnjinehcenaaW.Own.Fz.R_drew)); exact HO254.out) hb); have n3_ := Aside0.mk (Kd.R_lower (Kd.R_new' ho64 (Kd.R_lt (by (with_reducible repeat (first | apply Kd.R_alloc | apply Kd.R_drewN | apply Kd.R_drew | apply Go.Proofs.YtdccnjinehcenaaW.Own.Fz.R_alloc | apply Go.Proofs.YtdccnjinehcenaaW.Own.Fz.R_drewN | apply Go.Proofs.YtdccnjinehcenaaW.Own.Fz.R_drew)); exact HO_14.out))) (below_size (by repeat (first | (with_reducible first | exact HB.out | apply below_alloc | apply pw_below_drewN | apply below_drew1) | exact HB.out)))); have n4_ := Aside0.mk (below_step (by repeat (first | (with_reducible first | exact HB.out | apply below_alloc | apply pw_below_drewN | apply below_drew1) | exact HB.out)) hb); clear HO_14; clear HO251; clear HO254; clear HB; have HO_14 := n0_; have HO251 := n1_; have HO254 := n2_; have HO260 := n3_; have HB := n4_; clear n0_ n1_ n2_ n3_ n4_; clear hb ho64) | ((with_reducible refine gate_builtin (b := .append) (xs := #[.tmp 93, .tmp 94]) rfl ?_); (try (refine gate_guard (by rfl) ?_; dsimp only)); at_builtin; refine Kd.R_append_rows Kd.string (w0 := w) w.heap.size rfl (.tmp 93) (.tmp 94) 22 9 (.string ⟨#[]⟩) 16 rfl Try.underlying22 info9 rfl (by decide) (by omega) v259 y258 t243 _ _ _ (fun k_ => some k_ ≠ (.slice (some ad248) t243.length co54 : Value).ownBlock) (fun _ => False) rfl rfl ?aO ?aR (fun _ _ h => h) (fun _ h => h.elim) ?aF ?aB ?aS ?aL ?_; (case aR => repeat (first | exact (Kd.R_reads' HO_14.out).2.2 | (with_reducible refine Kd.C_alloc ?_ _) | (with_reducible refine Kd.C_drewN ?_ _) | (with_reducible refine Kd.C_drew ?_))); (case aB => exact (by repeat (first | (with_reducible first | exact HB.out | apply below_alloc | apply pw_below_drewN | apply below_drew1) | exact HB.out))); (case aF => exact (fun k_ hk => Kd.fresh' (Kd.R_lt (by (with_reducible repeat (first | apply Kd.R_alloc | apply Kd.R_drewN | apply Kd.R_drew | apply Go.Proofs.YtdccnjinehcenaaW.Own.Fz.R_alloc | apply Go.Proofs.YtdccnjinehcenaaW.Own.Fz.R_drewN | apply Go.Proofs.YtdccnjinehcenaaW.Own.Fz.R_drew)); exact HO_14.out)) k_ hk)); (case aO => exact (by (with_reducible repeat (first | apply Kd.R_alloc | apply Kd.R_drewN | apply Kd.R_drew | apply Go.Proofs.YtdccnjinehcenaaW.Own.Fz.R_alloc | apply Go.Proofs.YtdccnjinehcenaaW.Own.Fz.R_drewN | apply Go.Proofs.YtdccnjinehcenaaW.Own.Fz.R_drew)); exact Kd.R_mono HO260.out (fun _ hk => hk.2))); (case aS => exact (below_size (by repeat (first | (with_reducible first | exact HB.out | apply below_alloc | apply pw_below_drewN | apply below_drew1) | exact HB.out)))); (case aL => have := LMc37.out; omega); intro v262 w65 ho hb hg hat; rw [← Ny261.out] at ho; have n0_ := Aside0.mk (Kd.R_after (ok := (fun _ => True)) (by (with_reducible repeat (first | apply Kd.R_alloc | apply Kd.R_drewN | apply Kd.R_drew | apply Go.Proofs.YtdccnjinehcenaaW.Own.Fz.R_alloc | apply Go.Proofs.YtdccnjinehcenaaW.Own.Fz.R_drewN | apply Go.Proofs.YtdccnjinehcenaaW.Own.Fz.R_drew)); exact HO_14.out) hg hat); have n1_ := Aside0.mk (Go.Proofs.YtdccnjinehcenaaW.Own.Fz.R_over' (by (with_reducible repeat (first | apply Kd.R_alloc | apply Kd.R_drewN | apply Kd.R_drew | apply Go.Proofs.YtdccnjinehcenaaW.Own.Fz.R_alloc | apply Go.Proofs.YtdccnjinehcenaaW.Own.Fz.R_drewN | apply Go.Proofs.YtdccnjinehcenaaW.Own.Fz.R_drew)); exact HO251.out) (Kd.R_typed (by (with_reducible repeat (first | apply Kd.R_alloc | apply Kd.R_drewN | apply Kd.R_drew | apply Go.Proofs.YtdccnjinehcenaaW.Own.Fz.R_alloc | apply Go.Proofs.YtdccnjinehcenaaW.Own.Fz.R_drewN | apply Go.Proofs.YtdccnjinehcenaaW.Own.Fz.R_drew)); exact HO260.out)) (by decide) hg); have n2_ := Aside0.mk (Kd.R_over' (by (with_reducible repeat (first | apply Kd.R_alloc | apply Kd.R_drewN | apply Kd.R_drew | apply Go.Proofs.YtdccnjinehcenaaW.Own.Fz.R_alloc | apply Go.Proofs.YtdccnjinehcenaaW.Own.Fz.R_drewN | apply Go.Proofs.YtdccnjinehcenaaW.Own.Fz.R_drew)); exact HO254.out) (Kd.R_typed (by (with_reducible repeat (first | apply Kd.R_alloc | apply Kd.R_drewN | apply Kd.R_drew | apply Go.Proofs.YtdccnjinehcenaaW.Own.Fz.R_alloc | apply Go.Proofs.YtdccnjinehcenaaW.Own.Fz.R_drewN | apply Go.Proofs.YtdccnjinehcenaaW.Own.Fz.R_drew)); exact HO260.out)) (by decide) hg); have n3_ := Aside0.mk (hb); have n4_ := Aside0.mk (ho); clear HO_14; clear HO251; clear HO254; clear HB; clear HO260; have HO_14 := n0_; have HO251 := n1_; have HO254 := n2_; have HB := n3_; have HO263 := n4_; clear n0_ n1_ n2_ n3_ n4_; clear ho hb hg hat; have hcv66 := Go.Proofs.YtdccnjinehcenaaW.Own.Fz.own_string (P := Try.prog) Try.underlying43 Try.underlying5 Try.underlying9 (Go.Proofs.YtdccnjinehcenaaW.Own.Fz.own_of_R HO251.out); have p39 : 0 ≤ (0 : Int) := (by omega); have q39 : (0 : Int) < ((y261.length : Int) : Int) := of_decide_eq_true (by first | (with_reducible assumption) | assumption); have qi39 : (0 < y261.length) = True := eq_true (by omega); obtain ⟨go39, co39, eo39, gb39, gl39, cl39, HG39⟩ := Kd.R_form HO263.out (by omega); (first | cases eo39 | (injection eo39 with ea_ en_ ec_; (first | subst ea_ | (injection ea_ with ea_; subst ea_)); subst ec_; clear en_)); have GB39 := Aside0.mk gb39; have GG39 := Aside0.mk HG39; clear gb39 gl39 HG39; obtain ⟨hx39_0, hf39_0⟩ := Kd.R_celln (⟨#[]⟩ : ByteArray) HO263.out (0 : Int) p39 q39; (try rw [show ((0 : Int)).toNat = 0 from rfl] at hx39_0); (try simp only [Nat.reduceMul, Nat.zero_mul, Nat.zero_add, Nat.reduceAdd] at hx39_0); (try rw [show ((0 : Int)).toNat = 0 from rfl] at hf39_0); (try simp only [Nat.reduceMul, Nat.zero_mul, Nat.zero_add, Nat.reduceAdd] at hf39_0); replace p39 := eq_true p39; replace q39 := eq_true q39; obtain ⟨hy67_, hz67_⟩ := Kd.R_celln (⟨#[]⟩ : ByteArray) HO263.out (0 : Int) (by omega) (of_decide_eq_true (by first | (with_reducible assumption) | assumption)); (try simp only [Int.reduceToNat, Int.toNat_zero, Int.toNat_ofNat, Nat.reduceMul, Nat.zero_mul, Nat.zero_add] at hy67_ hz67_); (try rw [show ((0 : Int)).toNat = 0 from rfl] at hy67_); (try rw [show ((0 : Int)).toNat = 0 from rfl] at hz67_); have HP67 := Kd.R_putg HO263.out (0 : Int) (strOfNums y257)) | ((with_reducible refine gate_store (t := 9) (p := 99) rfl ?_); refine store_event (t := 9) (p := 99) (v := ?vo_w68) (w1 := (w65.setCell ⟨go39, (0 : Int).toNat, none⟩ (.string (strOfNums y257)))) ?hg ?ho ?hn ?hr ?_; (case ho => rfl); (case hg => rfl); (case hn => rfl); (case hr => first | (go_simp; done) | (go_simp; rfl)); intro w68 hw; have hg : w65.grownBy w68 (some go39) := (by rw [hw]; exact HP67.2); have hp_ : Kd.R Kd.string 9 w68 w.heap.size (fun k_ => some k_ ≠ (.slice (some ad248) t243.length co54 : Value).ownBlock) (.slice (some ⟨go39, 0, none⟩) y261.length co39) y264 := (by rw [hw, Ny264.out]; exact HP67.1); clear HP67; have n0_ := Aside0.mk (Kd.R_after (v := (.slice (some ⟨go39, 0, none⟩) y261.length co39)) (v1 := (.slice (some ⟨go39, 0, none⟩) y261.length co39)) (ok := (fun _ => True)) (by (with_reducible repeat (first | apply Kd.R_alloc | apply Kd.R_drewN | apply Kd.R_drew | apply Go.Proofs.YtdccnjinehcenaaW.Own.Fz.R_alloc | apply Go.Proofs.YtdccnjinehcenaaW.Own.Fz.R_drewN | apply Go.Proofs.YtdccnjinehcenaaW.Own.Fz.R_drew)); exact HO_14.out) hg (.inl rfl)); have n1_ := Aside0.mk (Go.Proofs.YtdccnjinehcenaaW.Own.Fz.R_over' (by (with_reducible repeat (first | apply Kd.R_alloc | apply Kd.R_drewN | apply Kd.R_drew | apply Go.Proofs.YtdccnjinehcenaaW.Own.Fz.R_alloc | apply Go.Proofs.YtdccnjinehcenaaW.Own.Fz.R_drewN | apply Go.Proofs.YtdccnjinehcenaaW.Own.Fz.R_drew)); exact HO251.out) (Kd.R_typed HO263.out) (by decide) hg); have n2_ := Aside0.mk (Kd.R_over' (v := (.slice (some ⟨go39, 0, none⟩) y261.length co39)) (by (with_reducible repeat (first | apply Kd.R_alloc | apply Kd.R_drewN | apply Kd.R_drew | apply Go.Proofs.YtdccnjinehcenaaW.Own.Fz.R_alloc | apply Go.Proofs.YtdccnjinehcenaaW.Own.Fz.R_drewN | apply Go.Proofs.YtdccnjinehcenaaW.Own.Fz.R_drew)); exact HO254.out) (Kd.R_typed HO263.out) (by decide) hg); have n3_ := Aside0.mk (hp_); have n4_ := Aside0.mk ((by rw [hw]; exact below_set (HB.out) GB39.out : Below w.heap.size w w68)); clear HO_14; clear HO251; clear HO254; clear HO263; clear HB; have HO_14 := n0_; have HO251 := n1_; have HO254 := n2_; have HO263 := n3_; have HB := n4_; clear n0_ n1_ n2_ n3_ n4_; clear hg hw hp_) | ((with_reducible refine gate_callee (f := 27) rfl ?_); refine goesL_ (some 102) rfl rfl Try.func27 (by kernel_rfl) rfl #[.slice (some ⟨go39, 0, none⟩) y264.length co39] rfl (by (try simp only [List.map_toArray, List.map_cons, List.map_nil]); first | done | (rw [show y264.length = y261.length from (Kd.R_reads' HO263.out).1.symm] <;> rfl) | rfl | (simp only [List.length_drop, List.length_take]; rfl)) ?_; (with_reducible refine (slot_Find.calls kj12 _ _ y264 t265 t266 t267 _ ?side1 ?side2 A40.out).mono ?_); (case side1 => repeat (first | exact (Kd.R_reads' HO263.out).2.2 | (with_reducible refine Kd.C_alloc ?_ _) | (with_reducible refine Kd.C_drewN ?_ _) | (with_reducible refine Kd.C_drew ?_))); (case side2 => rw [show y264.length = y261.length from (Kd.R_reads' HO263.out).1.symm]; exact (Kd.R_reads' HO263.out).2.1); rintro e w69 ⟨rfl, hb⟩; refine ⟨_, rfl, ?_⟩; have n0_ := Aside0.mk (Kd.R_below (by (with_reducible repeat (first | apply Kd.R_alloc | apply Kd.R_drewN | apply Kd.R_drew | apply Go.Proofs.YtdccnjinehcenaaW.Own.Fz.R_alloc | apply Go.Proofs.YtdccnjinehcenaaW.Own.Fz.R_drewN | apply Go.Proofs.YtdccnjinehcenaaW.Own.Fz.R_drew)); exact HO_14.out) hb); have n1_ := Aside0.mk (Go.Proofs.YtdccnjinehcenaaW.Own.Fz.R_below (by (with_reducible repeat (first | apply Kd.R_alloc | apply Kd.R_drewN | apply Kd.R_drew | apply Go.Proofs.YtdccnjinehcenaaW.Own.Fz.R_alloc | apply Go.Proofs.YtdccnjinehcenaaW.Own.Fz.R_drewN | apply Go.Proofs.YtdccnjinehcenaaW.Own.Fz.R_drew)); exact HO251.out) hb); have n2_ := Aside0.mk (Kd.R_below (by (with_reducible repeat (first | apply Kd.R_alloc | apply Kd.R_drewN | apply Kd.R_drew | apply Go.Proofs.YtdccnjinehcenaaW.Own.Fz.R_alloc | apply Go.Proofs.YtdccnjinehcenaaW.Own.Fz.R_drewN | apply Go.Proofs.YtdccnjinehcenaaW.Own.Fz.R_drew)); exact HO254.out) hb); have n3_ := Aside0.mk (Kd.R_below (by (with_reducible repeat (first | apply Kd.R_alloc | apply Kd.R_drewN | apply Kd.R_drew | apply Go.Proofs.YtdccnjinehcenaaW.Own.Fz.R_alloc | apply Go.Proofs.YtdccnjinehcenaaW.Own.Fz.R_drewN | apply Go.Proofs.YtdccnjinehcenaaW.Own.Fz.R_drew)); exact HO263.out) hb); have n4_ := Aside0.mk (below_step (by repeat (first | (with_reducible first | exact HB.out | apply below_alloc | apply pw_below_drewN | apply below_drew1) | exact HB.out)) hb); clear HO_14; clear HO251; clear HO254; clear HO263; clear HB; have HO_14 := n0_; have HO251 := n1_; have HO254 := n2_; have HO263 := n3_; have HB := n4_; clear n0_ n1_ n2_ n3_ n4_; (try clear hb); (try clear hb2); (try clear hk); (try clear hi); have q70 : (129 : Int) ≤ ((t243.length : Int) : Int) := of_decide_eq_true (by first | (with_reducible assumption) | assumption); obtain ⟨i070, hi070, _, hsz70, _⟩ := info_parts info9; have hroom70 : t243.length ≤ co54 := (Kd.R_reads' HO_14.out).2.1; have hC70 : Kd.C Kd.string _ (some ad248) t243.length t243 := (Kd.R_reads' HO_14.out).2.2; have hcut70 := cut_to (P := Try.prog) 22 9 .i64 Try.underlying22 hi070 (some ad248) t243.length co54 129 (by omega) q70 hroom70; have hr70 := Kd.C_take (m := 129) hC70 (by omega); have hy70 : y268.length = (129 : Int).toNat := (by rw [Ny268.out, List.length_take]; omega); rw [← Ny268.out] at hr70; rw [← hy70] at hcut70; have HR271 := Aside0.mk hr70; have HC271 := Aside0.mk (show y268.length ≤ co54 from by omega); clear hr70 hC70 hroom70 hi070 hsz70; have KY70 := Aside0.mk hy70; clear hy70; have KL70 := Aside0.mk (show 129 ≤ t243.length from by omega); replace q70 := eq_true q70) | ((with_reducible refine gate_callee (f := 27) rfl ?_); refine goesL_ (some 109) rfl rfl Try.func27 (by kernel_rfl) rfl #[.slice (some ad248) y268.length co54] rfl (by (try simp only [List.map_toArray, List.map_cons, List.map_nil]); first | done | rfl | (simp only [List.length_drop, List.length_take]; rfl)) ?_; (with_reducible refine (slot_Find.calls kj12 _ _ y268 t272 t273 t274 _ ?side1 ?side2 A42.out).mono ?_); (case side1 => repeat (first | exact (by repeat (first | (with_reducible exact HR271.out) | (with_reducible refine Kd.C_alloc ?_ _) | (with_reducible refine Kd.C_drewN ?_ _) | (with_reducible refine Kd.C_drew ?_) | exact HR271.out)) | (with_reducible refine Kd.C_alloc ?_ _) | (with_reducible refine Kd.C_drewN ?_ _) | (with_reducible refine Kd.C_drew ?_))); (case side2 => exact HC271.out); rintro e w71 ⟨rfl, hb⟩; refine ⟨_, rfl, ?_⟩; have n0_ := Aside0.mk (Kd.R_below (by (with_reducible repeat (first | apply Kd.R_alloc | apply Kd.R_drewN | apply Kd.R_drew | apply Go.Proofs.YtdccnjinehcenaaW.Own.Fz.R_alloc | apply Go.Proofs.YtdccnjinehcenaaW.Own.Fz.R_drewN | apply Go.Proofs.YtdccnjinehcenaaW.Own.Fz.R_drew)); exact HO_14.out) hb); have n1_ := Aside0.mk (Go.Proofs.YtdccnjinehcenaaW.Own.Fz.R_below (by (with_reducible repeat (first | apply Kd.R_alloc | apply Kd.R_drewN | apply Kd.R_drew | apply Go.Proofs.YtdccnjinehcenaaW.Own.Fz.R_alloc | apply Go.Proofs.YtdccnjinehcenaaW.Own.Fz.R_drewN | apply Go.Proofs.YtdccnjinehcenaaW.Own.Fz.R_drew)); exact HO251.out) hb); have n2_ := Aside0.mk (Kd.R_below (by (with_reducible repeat (first | apply Kd.R_alloc | apply Kd.R_drewN | apply Kd.R_drew | apply Go.Proofs.YtdccnjinehcenaaW.Own.Fz.R_alloc | apply Go.Proofs.YtdccnjinehcenaaW.Own.Fz.R_drewN | apply Go.Proofs.YtdccnjinehcenaaW.Own.Fz.R_drew)); exact HO254.out) hb); have n3_ := Aside0.mk (Kd.R_below (by (with_reducible repeat (first | apply Kd.R_alloc | apply Kd.R_drewN | apply Kd.R_drew | apply Go.Proofs.YtdccnjinehcenaaW.Own.Fz.R_alloc | apply Go.Proofs.YtdccnjinehcenaaW.Own.Fz.R_drewN | apply Go.Proofs.YtdccnjinehcenaaW.Own.Fz.R_drew)); exact HO263.out) hb); have n4_ := Aside0.mk (Kd.C_below (by repeat (first | (with_reducible exact HR271.out) | (with_reducible refine Kd.C_alloc ?_ _) | (with_reducible refine Kd.C_drewN ?_ _) | (with_reducible refine Kd.C_drew ?_) | exact HR271.out)) hb); have n5_ := Aside0.mk (below_step (by repeat (first | (with_reducible first | exact HB.out | apply below_alloc | apply pw_below_drewN | apply below_drew1) | exact HB.out)) hb); clear HO_14; clear HO251; clear HO254; clear HO263; clear HR271; clear HB; have HO_14 := n0_; have HO251 := n1_; have HO254 := n2_; have HO263 := n3_; have HR271 := n4_; have HB := n5_; clear n0_ n1_ n2_ n3_ n4_ n5_; (try clear hb); (try clear hb2); (try clear hk); (try clear hi)) | ((with_reducible refine gate_callee (f := 18) rfl ?_); refine goesL_ (some 116) rfl rfl Try.func18 (by kernel_rfl) rfl #[.int .i64 t223] rfl (by (try simp only [List.map_toArray, List.map_cons, List.map_nil]); first | done | rfl | (simp only [List.length_drop, List.length_take]; rfl)) ?_; (with_reducible refine (portagelaw0_Num.calls t223 t275 _ A44.out).mono ?_); rintro e w' ⟨rfl, ⟨nd, rfl⟩⟩; refine ⟨_, rfl, ?_⟩) | (go_at_call 18; (with_reducible refine (portagelaw0_Num.calls t227 t276 _ A46.out).mono ?_); rintro e w' ⟨rfl, ⟨nd, rfl⟩⟩) | (go_at_call 18; (with_reducible refine (portagelaw0_Num.calls t232 t277 _ A48.out).mono ?_); rintro e w' ⟨rfl, ⟨nd, rfl⟩⟩) | (go_at_call 18; (with_reducible refine (portagelaw0_Num.calls t267 t278 _ A51.out).mono ?_); rintro e w' ⟨rfl, ⟨nd, rfl⟩⟩) | (go_at_call 18; (with_reducible refine (portagelaw0_Num.calls t274 t279 _ A53.out).mono ?_); rintro e w' ⟨rfl, ⟨nd, rfl⟩⟩))
                                        go_ret
                                        exact ⟨by first | rfl | (simp [errW_none, errW_some] <;> rfl) | (simp only [← hji31]; first | rfl | (simp [errW_none, errW_some] <;> rfl)) | (simp [*, errW_none, errW_some] <;> rfl), by repeat (first | (with_reducible first | exact HB.out | apply below_alloc | apply pw_below_drewN | apply below_drew1) | exact HB.out)⟩
                                      · rw [if_neg c52] at H
                                        exact absurd H (by simp)
                                    · rw [if_neg c50] at H
                                      exact absurd H (by simp)
                                  · rw [if_neg c49] at H
                                    exact absurd H (by simp)
                                · rw [if_neg c47] at H
                                  exact absurd H (by simp)
                              · rw [if_neg c45] at H
                                exact absurd H (by simp)
                            · rw [if_neg c43] at H
                              have c43b0 : ((rd y252 (ji31)) == 1) = false := beq_eq_false_iff_ne.mpr c43
                              have c43b1 : ((rd y252 (ji31)) != 1) = true := bne_iff_ne.mpr c43
                              have HC72 := Aside0.mk H
                              clear H
                              obtain ⟨Ao73, co73, eo73⟩ := Kd.R_slice HO_14.out
                              subst eo73
                              have p248 : 0 ≤ (0 : Int) := (by omega)
                              have q248 : 0 < (t243.length : Int) := of_decide_eq_true (by first | (with_reducible assumption) | assumption)
                              obtain ⟨ad248, e248, hx248_0⟩ := Kd.at_string (Kd.R_reads' HO_14.out).2.2 0 p248 q248
                              cases e248
                              have qi248 : (0 < t243.length) = True := eq_true (by omega)
                              (try rw [show ((0 : Int)).toNat = 0 from rfl] at hx248_0)
                              (try rw [Addr.add_zero'] at hx248_0)
                              replace p248 := eq_true p248
                              replace q248 := eq_true q248
                              go_upto_region 20 with (first | ((with_reducible refine gate_dst (N := 77) rfl ?_); (try (refine gate_guard (by rfl) ?_; dsimp only)); refine Go.Proofs.YtdccnjinehcenaaW.Own.Fz.bytes_event ?hg (N := 77) ?hd (s := (rdOf ByteArray.empty t243 0)) (e := 5) ?hz ?hr ?_; (case hd => rfl); (case hg => rfl); (case hz => exact (of_decide_eq_true (by first | (with_reducible assumption) | assumption))); (case hr => go_simp; rw [(print_bytes (P := Try.prog) 9 43 5 Try.underlying9 Try.underlying43 Try.underlying5 _ _)]; rfl); intro v250 w74 ho75 hb hg_ hnew_; clear hg_ hnew_; (first | rw [← Ny249.out] at ho75 | (simp only [Int.reduceToNat] at ho75; rw [← Ny249.out] at ho75)); have n0_ := Aside0.mk (Kd.R_below (by (with_reducible repeat (first | apply Kd.R_alloc | apply Kd.R_drewN | apply Kd.R_drew | apply Go.Proofs.YtdccnjinehcenaaW.Own.Fz.R_alloc | apply Go.Proofs.YtdccnjinehcenaaW.Own.Fz.R_drewN | apply Go.Proofs.YtdccnjinehcenaaW.Own.Fz.R_drew)); exact HO_14.out) hb); have n1_ := Aside0.mk (Go.Proofs.YtdccnjinehcenaaW.Own.Fz.R_lower ho75 (below_size (by repeat (first | (with_reducible first | exact HB.out | apply below_alloc | apply pw_below_drewN | apply below_drew1) | exact HB.out)))); have n2_ := Aside0.mk (below_step (by repeat (first | (with_reducible first | exact HB.out | apply below_alloc | apply pw_below_drewN | apply below_drew1) | exact HB.out)) hb); clear HO_14; clear HB; have HO_14 := n0_; have HO251 := n1_; have HB := n2_; clear n0_ n1_ n2_; clear hb ho75) | ((with_reducible refine gate_dst (N := 78) rfl ?_); (try (refine gate_guard (by rfl) ?_; dsimp only)); refine Kd.R_lit (Kd.int .i64) _ 3 ?hg (N := 78) ?hd (xs := ([0, 1, 2, 3, 4, 8, 9, 30, 62, 63] : List Int)) (inner := [.int .i64 0, .int .i64 1, .int .i64 2, .int .i64 3, .int .i64 4, .int .i64 8, .int .i64 9, .int .i64 30, .int .i64 62, .int .i64 63]) (ok := fun _ => True) (okp := fun _ => True) ?hr ?hp (fun _ hk => hk) trivial (Below.refl _ _) (Nat.le_refl _) (by simp) ?_; (case hd => rfl); (case hg => rfl); (case hr => first | (go_simp; done) | (go_simp; rfl)); (case hp => exact (Reps.one (show Kd.M (Kd.int .i64) _ _ _ 0 [.int .i64 0] from rfl) (Reps.one (show Kd.M (Kd.int .i64) _ _ _ 1 [.int .i64 1] from rfl) (Reps.one (show Kd.M (Kd.int .i64) _ _ _ 2 [.int .i64 2] from rfl) (Reps.one (show Kd.M (Kd.int .i64) _ _ _ 3 [.int .i64 3] from rfl) (Reps.one (show Kd.M (Kd.int .i64) _ _ _ 4 [.int .i64 4] from rfl) (Reps.one (show Kd.M (Kd.int .i64) _ _ _ 8 [.int .i64 8] from rfl) (Reps.one (show Kd.M (Kd.int .i64) _ _ _ 9 [.int .i64 9] from rfl) (Reps.one (show Kd.M (Kd.int .i64) _ _ _ 30 [.int .i64 30] from rfl) (Reps.one (show Kd.M (Kd.int .i64) _ _ _ 62 [.int .i64 62] from rfl) (Reps.one (show Kd.M (Kd.int .i64) _ _ _ 63 [.int .i64 63] from rfl) (Reps.none _ _)))))))))))); intro v253 w76 ho77 hb hg_ hnew_; clear hg_ hnew_; (first | rw [← Ny252.out] at ho77 | (simp only [Int.reduceToNat] at ho77; rw [← Ny252.out] at ho77)); have n0_ := Aside0.mk (Kd.R_below (by (with_reducible repeat (first | apply Kd.R_alloc | apply Kd.R_drewN | apply Kd.R_drew | apply Go.Proofs.YtdccnjinehcenaaW.Own.Fz.R_alloc | apply Go.Proofs.YtdccnjinehcenaaW.Own.Fz.R_drewN | apply Go.Proofs.YtdccnjinehcenaaW.Own.Fz.R_drew)); exact HO_14.out) hb); have n1_ := Aside0.mk (Go.Proofs.YtdccnjinehcenaaW.Own.Fz.R_below (by (with_reducible repeat (first | apply Kd.R_alloc | apply Kd.R_drewN | apply Kd.R_drew | apply Go.Proofs.YtdccnjinehcenaaW.Own.Fz.R_alloc | apply Go.Proofs.YtdccnjinehcenaaW.Own.Fz.R_drewN | apply Go.Proofs.YtdccnjinehcenaaW.Own.Fz.R_drew)); exact HO251.out) hb); have n2_ := Aside0.mk (Kd.R_lower ho77 (below_size (by repeat (first | (with_reducible first | exact HB.out | apply below_alloc | apply pw_below_drewN | apply below_drew1) | exact HB.out)))); have n3_ := Aside0.mk (below_step (by repeat (first | (with_reducible first | exact HB.out | apply below_alloc | apply pw_below_drewN | apply below_drew1) | exact HB.out)) hb); clear HO_14; clear HO251; clear HB; have HO_14 := n0_; have HO251 := n1_; have HO254 := n2_; have HB := n3_; clear n0_ n1_ n2_ n3_; clear hb ho77; obtain ⟨Ao78, co78, eo78⟩ := Kd.R_slice HO254.out; subst eo78; have p255 : 0 ≤ ((ji31) : Int) := of_decide_eq_true (by first | (with_reducible assumption) | assumption); have q255 : (ji31) < (y252.length : Int) := of_decide_eq_true (by first | (with_reducible assumption) | assumption); obtain ⟨ad255, e255, hx255_0⟩ := Kd.at_int (Kd.R_reads' HO254.out).2.2 (ji31) p255 q255; cases e255; replace p255 := eq_true p255; replace q255 := eq_true q255; obtain ⟨Ao79, co79, eo79⟩ := Go.Proofs.YtdccnjinehcenaaW.Own.Fz.R_slice HO251.out; subst eo79; have p256 : 0 ≤ ((rd y252 (ji31)) : Int) := of_decide_eq_true (by first | (with_reducible assumption) | assumption); have q256 : (rd y252 (ji31)) < (y249.length : Int) := of_decide_eq_true (by first | (with_reducible assumption) | assumption); obtain ⟨ad256, e256, hx256_0⟩ := Kd.at_int (Go.Proofs.YtdccnjinehcenaaW.Own.Fz.R_reads' HO251.out).2.2 (rd y252 (ji31)) p256 q256; cases e256; replace p256 := eq_true p256; replace q256 := eq_true q256; have p36 : 0 ≤ ((rd y252 (ji31)) : Int) := of_decide_eq_true (by first | (with_reducible assumption) | assumption); have q36 : ((rd y252 (ji31)) : Int) < ((y249.length : Int) : Int) := of_decide_eq_true (by first | (with_reducible assumption) | assumption); obtain ⟨go36, co36, eo36, gb36, gl36, cl36, HG36⟩ := Go.Proofs.YtdccnjinehcenaaW.Own.Fz.R_form HO251.out (by omega); (first | cases eo36 | (injection eo36 with ea_ en_ ec_; (first | subst ea_ | (injection ea_ with ea_; subst ea_)); subst ec_; clear en_)); have GB36 := Aside0.mk gb36; have GG36 := Aside0.mk HG36; clear gb36 gl36 HG36; (first | simp only [add_plain] at hx256_0 | skip); obtain ⟨hx36_0, hf36_0⟩ := Go.Proofs.YtdccnjinehcenaaW.Own.Fz.R_celln 0 HO251.out ((rd y252 (ji31)) : Int) p36 q36; replace p36 := eq_true p36; replace q36 := eq_true q36; obtain ⟨hy80_, hz80_⟩ := Go.Proofs.YtdccnjinehcenaaW.Own.Fz.R_celln 0 HO251.out ((rd y252 (ji31)) : Int) (of_decide_eq_true (by first | (with_reducible assumption) | assumption)) (of_decide_eq_true (by first | (with_reducible assumption) | assumption)); have HP80 := Go.Proofs.YtdccnjinehcenaaW.Own.Fz.R_putg HO251.out ((rd y252 (ji31)) : Int) (Go.bits .xor .u8 (rd y249 (rd y252 (ji31))) 128)) | ((with_reducible refine gate_store (t := 5) (p := 92) rfl ?_); refine store_event (t := 5) (p := 92) (v := ?vo_w81) (w1 := (w76.setCell ⟨go36, ((rd y252 (ji31)) : Int).toNat, none⟩ (.int .u8 (Go.bits .xor .u8 (rd y249 (rd y252 (ji31))) 128)))) ?hg ?ho ?hn ?hr ?_; (case ho => rfl); (case hg => rfl); (case hn => rfl); (case hr => first | (go_simp; done) | (go_simp; rfl)); intro w81 hw; have hg : w76.grownBy w81 (some go36) := (by rw [hw]; exact HP80.2); have hp_ : Go.Proofs.YtdccnjinehcenaaW.Own.Fz.R (Kd.int .u8) 5 w81 w.heap.size (fun _ => True) (.slice (some ⟨go36, 0, none⟩) y249.length co79) y257 := (by rw [hw, Ny257.out]; exact HP80.1); clear HP80; have n0_ := Aside0.mk (Go.Proofs.YtdccnjinehcenaaW.Own.Fz.over_F (v := (.slice (some ⟨go36, 0, none⟩) y249.length co79)) (by (with_reducible repeat (first | apply Kd.R_alloc | apply Kd.R_drewN | apply Kd.R_drew | apply Go.Proofs.YtdccnjinehcenaaW.Own.Fz.R_alloc | apply Go.Proofs.YtdccnjinehcenaaW.Own.Fz.R_drewN | apply Go.Proofs.YtdccnjinehcenaaW.Own.Fz.R_drew)); exact HO_14.out) (Go.Proofs.YtdccnjinehcenaaW.Own.Fz.R_typedF HO251.out) (by decide) hg); have n1_ := Aside0.mk (hp_); have n2_ := Aside0.mk (Go.Proofs.YtdccnjinehcenaaW.Own.Fz.over_F (v := (.slice (some ⟨go36, 0, none⟩) y249.length co79)) (by (with_reducible repeat (first | apply Kd.R_alloc | apply Kd.R_drewN | apply Kd.R_drew | apply Go.Proofs.YtdccnjinehcenaaW.Own.Fz.R_alloc | apply Go.Proofs.YtdccnjinehcenaaW.Own.Fz.R_drewN | apply Go.Proofs.YtdccnjinehcenaaW.Own.Fz.R_drew)); exact HO254.out) (Go.Proofs.YtdccnjinehcenaaW.Own.Fz.R_typedF HO251.out) (by decide) hg); have n3_ := Aside0.mk ((by rw [hw]; exact below_set (HB.out) GB36.out : Below w.heap.size w w81)); clear HO_14; clear HO251; clear HO254; clear HB; have HO_14 := n0_; have HO251 := n1_; have HO254 := n2_; have HB := n3_; clear n0_ n1_ n2_ n3_; clear hg hw hp_) | ((with_reducible refine gate_dst (N := 93) rfl ?_); (try (refine gate_guard (by rfl) ?_; dsimp only)); refine Kd.R_lit Kd.string _ 9 ?hg (N := 93) ?hd (xs := ([] : List ByteArray)) (inner := []) (ok := fun _ => True) (okp := fun _ => True) ?hr ?hp (fun _ hk => hk) trivial (Below.refl _ _) (Nat.le_refl _) (by simp) ?_; (case hd => rfl); (case hg => rfl); (case hr => first | (go_simp; done) | (go_simp; rfl)); (case hp => exact (Reps.none _ _)); intro v259 w82 ho83 hb hg_ hnew_; clear hg_ hnew_; (first | rw [← Ny258.out] at ho83 | (simp only [Int.reduceToNat] at ho83; rw [← Ny258.out] at ho83)); have n0_ := Aside0.mk (Kd.R_elder' (by (with_reducible repeat (first | apply Kd.R_alloc | apply Kd.R_drewN | apply Kd.R_drew | apply Go.Proofs.YtdccnjinehcenaaW.Own.Fz.R_alloc | apply Go.Proofs.YtdccnjinehcenaaW.Own.Fz.R_drewN | apply Go.Proofs.YtdccnjinehcenaaW.Own.Fz.R_drew)); exact HO_14.out) (Kd.R_base ho83) hb); have n1_ := Aside0.mk (Go.Proofs.YtdccnjinehcenaaW.Own.Fz.R_below (by (with_reducible repeat (first | apply Kd.R_alloc | apply Kd.R_drewN | apply Kd.R_drew | apply Go.Proofs.YtdccnjinehcenaaW.Own.Fz.R_alloc | apply Go.Proofs.YtdccnjinehcenaaW.Own.Fz.R_drewN | apply Go.Proofs.YtdccnjinehcenaaW.Own.Fz.R_drew)); exact HO251.out) hb); have n2_ := Aside0.mk (Kd.R_below (by (with_reducible repeat (first | apply Kd.R_alloc | apply Kd.R_drewN | apply Kd.R_drew | apply Go.Proofs.YtdccnjinehcenaaW.Own.Fz.R_alloc | apply Go.Proofs.YtdccnjinehcenaaW.Own.Fz.R_drewN | apply Go.Proofs.YtdccnjinehcenaaW.Own.Fz.R_drew)); exact HO254.out) hb); have n3_ := Aside0.mk (Kd.R_lower (Kd.R_new' ho83 (Kd.R_lt (by (with_reducible repeat (first | apply Kd.R_alloc | apply Kd.R_drewN | apply Kd.R_drew | apply Go.Proofs.YtdccnjinehcenaaW.Own.Fz.R_alloc | apply Go.Proofs.YtdccnjinehcenaaW.Own.Fz.R_drewN | apply Go.Proofs.YtdccnjinehcenaaW.Own.Fz.R_drew)); exact HO_14.out))) (below_size (by repeat (first | (with_reducible first | exact HB.out | apply below_alloc | apply pw_below_drewN | apply below_drew1) | exact HB.out)))); have n4_ := Aside0.mk (below_step (by repeat (first | (with_reducible first | exact HB.out | apply below_alloc | apply pw_below_drewN | apply below_drew1) | exact HB.out)) hb); clear HO_14; clear HO251; clear HO254; clear HB; have HO_14 := n0_; have HO251 := n1_; have HO254 := n2_; have HO260 := n3_; have HB := n4_; clear n0_ n1_ n2_ n3_ n4_; clear hb ho83) | ((with_reducible refine gate_builtin (b := .append) (xs := #[.tmp 93, .tmp 94]) rfl ?_); (try (refine gate_guard (by rfl) ?_; dsimp only)); at_builtin; refine Kd.R_append_rows Kd.string (w0 := w) w.heap.size rfl (.tmp 93) (.tmp 94) 22 9 (.string ⟨#[]⟩) 16 rfl Try.underlying22 info9 rfl (by decide) (by omega) v259 y258 t243 _ _ _ (fun k_ => some k_ ≠ (.slice (some ad248) t243.length co73 : Value).ownBlock) (fun _ => False) rfl rfl ?aO ?aR (fun _ _ h => h) (fun _ h => h.elim) ?aF ?aB ?aS ?aL ?_; (case aR => repeat (first | exact (Kd.R_reads' HO_14.out).2.2 | (with_reducible refine Kd.C_alloc ?_ _) | (with_reducible refine Kd.C_drewN ?_ _) | (with_reducible refine Kd.C_drew ?_))); (case aB => exact (by repeat (first | (with_reducible first | exact HB.out | apply below_alloc | apply pw_below_drewN | apply below_drew1) | exact HB.out))); (case aF => exact (fun k_ hk => Kd.fresh' (Kd.R_lt (by (with_reducible repeat (first | apply Kd.R_alloc | apply Kd.R_drewN | apply Kd.R_drew | apply Go.Proofs.YtdccnjinehcenaaW.Own.Fz.R_alloc | apply Go.Proofs.YtdccnjinehcenaaW.Own.Fz.R_drewN | apply Go.Proofs.YtdccnjinehcenaaW.Own.Fz.R_drew)); exact HO_14.out)) k_ hk)); (case aO => exact (by (with_reducible repeat (first | apply Kd.R_alloc | apply Kd.R_drewN | apply Kd.R_drew | apply Go.Proofs.YtdccnjinehcenaaW.Own.Fz.R_alloc | apply Go.Proofs.YtdccnjinehcenaaW.Own.Fz.R_drewN | apply Go.Proofs.YtdccnjinehcenaaW.Own.Fz.R_drew)); exact Kd.R_mono HO260.out (fun _ hk => hk.2))); (case aS => exact (below_size (by repeat (first | (with_reducible first | exact HB.out | apply below_alloc | apply pw_below_drewN | apply below_drew1) | exact HB.out)))); (case aL => have := LMc37.out; omega); intro v262 w84 ho hb hg hat; rw [← Ny261.out] at ho; have n0_ := Aside0.mk (Kd.R_after (ok := (fun _ => True)) (by (with_reducible repeat (first | apply Kd.R_alloc | apply Kd.R_drewN | apply Kd.R_drew | apply Go.Proofs.YtdccnjinehcenaaW.Own.Fz.R_alloc | apply Go.Proofs.YtdccnjinehcenaaW.Own.Fz.R_drewN | apply Go.Proofs.YtdccnjinehcenaaW.Own.Fz.R_drew)); exact HO_14.out) hg hat); have n1_ := Aside0.mk (Go.Proofs.YtdccnjinehcenaaW.Own.Fz.R_over' (by (with_reducible repeat (first | apply Kd.R_alloc | apply Kd.R_drewN | apply Kd.R_drew | apply Go.Proofs.YtdccnjinehcenaaW.Own.Fz.R_alloc | apply Go.Proofs.YtdccnjinehcenaaW.Own.Fz.R_drewN | apply Go.Proofs.YtdccnjinehcenaaW.Own.Fz.R_drew)); exact HO251.out) (Kd.R_typed (by (with_reducible repeat (first | apply Kd.R_alloc | apply Kd.R_drewN | apply Kd.R_drew | apply Go.Proofs.YtdccnjinehcenaaW.Own.Fz.R_alloc | apply Go.Proofs.YtdccnjinehcenaaW.Own.Fz.R_drewN | apply Go.Proofs.YtdccnjinehcenaaW.Own.Fz.R_drew)); exact HO260.out)) (by decide) hg); have n2_ := Aside0.mk (Kd.R_over' (by (with_reducible repeat (first | apply Kd.R_alloc | apply Kd.R_drewN | apply Kd.R_drew | apply Go.Proofs.YtdccnjinehcenaaW.Own.Fz.R_alloc | apply Go.Proofs.YtdccnjinehcenaaW.Own.Fz.R_drewN | apply Go.Proofs.YtdccnjinehcenaaW.Own.Fz.R_drew)); exact HO254.out) (Kd.R_typed (by (with_reducible repeat (first | apply Kd.R_alloc | apply Kd.R_drewN | apply Kd.R_drew | apply Go.Proofs.YtdccnjinehcenaaW.Own.Fz.R_alloc | apply Go.Proofs.YtdccnjinehcenaaW.Own.Fz.R_drewN | apply Go.Proofs.YtdccnjinehcenaaW.Own.Fz.R_drew)); exact HO260.out)) (by decide) hg); have n3_ := Aside0.mk (hb); have n4_ := Aside0.mk (ho); clear HO_14; clear HO251; clear HO254; clear HB; clear HO260; have HO_14 := n0_; have HO251 := n1_; have HO254 := n2_; have HB := n3_; have HO263 := n4_; clear n0_ n1_ n2_ n3_ n4_; clear ho hb hg hat; have hcv85 := Go.Proofs.YtdccnjinehcenaaW.Own.Fz.own_string (P := Try.prog) Try.underlying43 Try.underlying5 Try.underlying9 (Go.Proofs.YtdccnjinehcenaaW.Own.Fz.own_of_R HO251.out); have p39 : 0 ≤ (0 : Int) := (by omega); have q39 : (0 : Int) < ((y261.length : Int) : Int) := of_decide_eq_true (by first | (with_reducible assumption) | assumption); have qi39 : (0 < y261.length) = True := eq_true (by omega); obtain ⟨go39, co39, eo39, gb39, gl39, cl39, HG39⟩ := Kd.R_form HO263.out (by omega); (first | cases eo39 | (injection eo39 with ea_ en_ ec_; (first | subst ea_ | (injection ea_ with ea_; subst ea_)); subst ec_; clear en_)); have GB39 := Aside0.mk gb39; have GG39 := Aside0.mk HG39; clear gb39 gl39 HG39; obtain ⟨hx39_0, hf39_0⟩ := Kd.R_celln (⟨#[]⟩ : ByteArray) HO263.out (0 : Int) p39 q39; (try rw [show ((0 : Int)).toNat = 0 from rfl] at hx39_0); (try simp only [Nat.reduceMul, Nat.zero_mul, Nat.zero_add, Nat.reduceAdd] at hx39_0); (try rw [show ((0 : Int)).toNat = 0 from rfl] at hf39_0); (try simp only [Nat.reduceMul, Nat.zero_mul, Nat.zero_add, Nat.reduceAdd] at hf39_0); replace p39 := eq_true p39; replace q39 := eq_true q39; obtain ⟨hy86_, hz86_⟩ := Kd.R_celln (⟨#[]⟩ : ByteArray) HO263.out (0 : Int) (by omega) (of_decide_eq_true (by first | (with_reducible assumption) | assumption)); (try simp only [Int.reduceToNat, Int.toNat_zero, Int.toNat_ofNat, Nat.reduceMul, Nat.zero_mul, Nat.zero_add] at hy86_ hz86_); (try rw [show ((0 : Int)).toNat = 0 from rfl] at hy86_); (try rw [show ((0 : Int)).toNat = 0 from rfl] at hz86_); have HP86 := Kd.R_putg HO263.out (0 : Int) (strOfNums y257)) | ((with_reducible refine gate_store (t := 9) (p := 99) rfl ?_); refine store_event (t := 9) (p := 99) (v := ?vo_w87) (w1 := (w84.setCell ⟨go39, (0 : Int).toNat, none⟩ (.string (strOfNums y257)))) ?hg ?ho ?hn ?hr ?_; (case ho => rfl); (case hg => rfl); (case hn => rfl); (case hr => first | (go_simp; done) | (go_simp; rfl)); intro w87 hw; have hg : w84.grownBy w87 (some go39) := (by rw [hw]; exact HP86.2); have hp_ : Kd.R Kd.string 9 w87 w.heap.size (fun k_ => some k_ ≠ (.slice (some ad248) t243.length co73 : Value).ownBlock) (.slice (some ⟨go39, 0, none⟩) y261.length co39) y264 := (by rw [hw, Ny264.out]; exact HP86.1); clear HP86; have n0_ := Aside0.mk (Kd.R_after (v := (.slice (some ⟨go39, 0, none⟩) y261.length co39)) (v1 := (.slice (some ⟨go39, 0, none⟩) y261.length co39)) (ok := (fun _ => True)) (by (with_reducible repeat (first | apply Kd.R_alloc | apply Kd.R_drewN | apply Kd.R_drew | apply Go.Proofs.YtdccnjinehcenaaW.Own.Fz.R_alloc | apply Go.Proofs.YtdccnjinehcenaaW.Own.Fz.R_drewN | apply Go.Proofs.YtdccnjinehcenaaW.Own.Fz.R_drew)); exact HO_14.out) hg (.inl rfl)); have n1_ := Aside0.mk (Go.Proofs.YtdccnjinehcenaaW.Own.Fz.R_over' (by (with_reducible repeat (first | apply Kd.R_alloc | apply Kd.R_drewN | apply Kd.R_drew | apply Go.Proofs.YtdccnjinehcenaaW.Own.Fz.R_alloc | apply Go.Proofs.YtdccnjinehcenaaW.Own.Fz.R_drewN | apply Go.Proofs.YtdccnjinehcenaaW.Own.Fz.R_drew)); exact HO251.out) (Kd.R_typed HO263.out) (by decide) hg); have n2_ := Aside0.mk (Kd.R_over' (v := (.slice (some ⟨go39, 0, none⟩) y261.length co39)) (by (with_reducible repeat (first | apply Kd.R_alloc | apply Kd.R_drewN | apply Kd.R_drew | apply Go.Proofs.YtdccnjinehcenaaW.Own.Fz.R_alloc | apply Go.Proofs.YtdccnjinehcenaaW.Own.Fz.R_drewN | apply Go.Proofs.YtdccnjinehcenaaW.Own.Fz.R_drew)); exact HO254.out) (Kd.R_typed HO263.out) (by decide) hg); have n3_ := Aside0.mk (hp_); have n4_ := Aside0.mk ((by rw [hw]; exact below_set (HB.out) GB39.out : Below w.heap.size w w87)); clear HO_14; clear HO251; clear HO254; clear HO263; clear HB; have HO_14 := n0_; have HO251 := n1_; have HO254 := n2_; have HO263 := n3_; have HB := n4_; clear n0_ n1_ n2_ n3_ n4_; clear hg hw hp_) | ((with_reducible refine gate_callee (f := 27) rfl ?_); refine goesL_ (some 102) rfl rfl Try.func27 (by kernel_rfl) rfl #[.slice (some ⟨go39, 0, none⟩) y264.length co39] rfl (by (try simp only [List.map_toArray, List.map_cons, List.map_nil]); first | done | (rw [show y264.length = y261.length from (Kd.R_reads' HO263.out).1.symm] <;> rfl) | rfl | (simp only [List.length_drop, List.length_take]; rfl)) ?_; (with_reducible refine (slot_Find.calls kj12 _ _ y264 t265 t266 t267 _ ?side1 ?side2 A40.out).mono ?_); (case side1 => repeat (first | exact (Kd.R_reads' HO263.out).2.2 | (with_reducible refine Kd.C_alloc ?_ _) | (with_reducible refine Kd.C_drewN ?_ _) | (with_reducible refine Kd.C_drew ?_))); (case side2 => rw [show y264.length = y261.length from (Kd.R_reads' HO263.out).1.symm]; exact (Kd.R_reads' HO263.out).2.1); rintro e w88 ⟨rfl, hb⟩; refine ⟨_, rfl, ?_⟩; have n0_ := Aside0.mk (Kd.R_below (by (with_reducible repeat (first | apply Kd.R_alloc | apply Kd.R_drewN | apply Kd.R_drew | apply Go.Proofs.YtdccnjinehcenaaW.Own.Fz.R_alloc | apply Go.Proofs.YtdccnjinehcenaaW.Own.Fz.R_drewN | apply Go.Proofs.YtdccnjinehcenaaW.Own.Fz.R_drew)); exact HO_14.out) hb); have n1_ := Aside0.mk (Go.Proofs.YtdccnjinehcenaaW.Own.Fz.R_below (by (with_reducible repeat (first | apply Kd.R_alloc | apply Kd.R_drewN | apply Kd.R_drew | apply Go.Proofs.YtdccnjinehcenaaW.Own.Fz.R_alloc | apply Go.Proofs.YtdccnjinehcenaaW.Own.Fz.R_drewN | apply Go.Proofs.YtdccnjinehcenaaW.Own.Fz.R_drew)); exact HO251.out) hb); have n2_ := Aside0.mk (Kd.R_below (by (with_reducible repeat (first | apply Kd.R_alloc | apply Kd.R_drewN | apply Kd.R_drew | apply Go.Proofs.YtdccnjinehcenaaW.Own.Fz.R_alloc | apply Go.Proofs.YtdccnjinehcenaaW.Own.Fz.R_drewN | apply Go.Proofs.YtdccnjinehcenaaW.Own.Fz.R_drew)); exact HO254.out) hb); have n3_ := Aside0.mk (Kd.R_below (by (with_reducible repeat (first | apply Kd.R_alloc | apply Kd.R_drewN | apply Kd.R_drew | apply Go.Proofs.YtdccnjinehcenaaW.Own.Fz.R_alloc | apply Go.Proofs.YtdccnjinehcenaaW.Own.Fz.R_drewN | apply Go.Proofs.YtdccnjinehcenaaW.Own.Fz.R_drew)); exact HO263.out) hb); have n4_ := Aside0.mk (below_step (by repeat (first | (with_reducible first | exact HB.out | apply below_alloc | apply pw_below_drewN | apply below_drew1) | exact HB.out)) hb); clear HO_14; clear HO251; clear HO254; clear HO263; clear HB; have HO_14 := n0_; have HO251 := n1_; have HO254 := n2_; have HO263 := n3_; have HB := n4_; clear n0_ n1_ n2_ n3_ n4_; (try clear hb); (try clear hb2); (try clear hk); (try clear hi); have q89 : (129 : Int) ≤ ((t243.length : Int) : Int) := of_decide_eq_true (by first | (with_reducible assumption) | assumption); obtain ⟨i089, hi089, _, hsz89, _⟩ := info_parts info9; have hroom89 : t243.length ≤ co73 := (Kd.R_reads' HO_14.out).2.1; have hC89 : Kd.C Kd.string _ (some ad248) t243.length t243 := (Kd.R_reads' HO_14.out).2.2; have hcut89 := cut_to (P := Try.prog) 22 9 .i64 Try.underlying22 hi089 (some ad248) t243.length co73 129 (by omega) q89 hroom89; have hr89 := Kd.C_take (m := 129) hC89 (by omega); have hy89 : y268.length = (129 : Int).toNat := (by rw [Ny268.out, List.length_take]; omega); rw [← Ny268.out] at hr89; rw [← hy89] at hcut89; have HR271 := Aside0.mk hr89; have HC271 := Aside0.mk (show y268.length ≤ co73 from by omega); clear hr89 hC89 hroom89 hi089 hsz89; have KY89 := Aside0.mk hy89; clear hy89; have KL89 := Aside0.mk (show 129 ≤ t243.length from by omega); replace q89 := eq_true q89) | ((with_reducible refine gate_callee (f := 27) rfl ?_); refine goesL_ (some 109) rfl rfl Try.func27 (by kernel_rfl) rfl #[.slice (some ad248) y268.length co73] rfl (by (try simp only [List.map_toArray, List.map_cons, List.map_nil]); first | done | rfl | (simp only [List.length_drop, List.length_take]; rfl)) ?_; (with_reducible refine (slot_Find.calls kj12 _ _ y268 t272 t273 t274 _ ?side1 ?side2 A42.out).mono ?_); (case side1 => repeat (first | exact (by repeat (first | (with_reducible exact HR271.out) | (with_reducible refine Kd.C_alloc ?_ _) | (with_reducible refine Kd.C_drewN ?_ _) | (with_reducible refine Kd.C_drew ?_) | exact HR271.out)) | (with_reducible refine Kd.C_alloc ?_ _) | (with_reducible refine Kd.C_drewN ?_ _) | (with_reducible refine Kd.C_drew ?_))); (case side2 => exact HC271.out); rintro e w90 ⟨rfl, hb⟩; refine ⟨_, rfl, ?_⟩; have n0_ := Aside0.mk (Kd.R_below (by (with_reducible repeat (first | apply Kd.R_alloc | apply Kd.R_drewN | apply Kd.R_drew | apply Go.Proofs.YtdccnjinehcenaaW.Own.Fz.R_alloc | apply Go.Proofs.YtdccnjinehcenaaW.Own.Fz.R_drewN | apply Go.Proofs.YtdccnjinehcenaaW.Own.Fz.R_drew)); exact HO_14.out) hb); have n1_ := Aside0.mk (Go.Proofs.YtdccnjinehcenaaW.Own.Fz.R_below (by (with_reducible repeat (first | apply Kd.R_alloc | apply Kd.R_drewN | apply Kd.R_drew | apply Go.Proofs.YtdccnjinehcenaaW.Own.Fz.R_alloc | apply Go.Proofs.YtdccnjinehcenaaW.Own.Fz.R_drewN | apply Go.Proofs.YtdccnjinehcenaaW.Own.Fz.R_drew)); exact HO251.out) hb); have n2_ := Aside0.mk (Kd.R_below (by (with_reducible repeat (first | apply Kd.R_alloc | apply Kd.R_drewN | apply Kd.R_drew | apply Go.Proofs.YtdccnjinehcenaaW.Own.Fz.R_alloc | apply Go.Proofs.YtdccnjinehcenaaW.Own.Fz.R_drewN | apply Go.Proofs.YtdccnjinehcenaaW.Own.Fz.R_drew)); exact HO254.out) hb); have n3_ := Aside0.mk (Kd.R_below (by (with_reducible repeat (first | apply Kd.R_alloc | apply Kd.R_drewN | apply Kd.R_drew | apply Go.Proofs.YtdccnjinehcenaaW.Own.Fz.R_alloc | apply Go.Proofs.YtdccnjinehcenaaW.Own.Fz.R_drewN | apply Go.Proofs.YtdccnjinehcenaaW.Own.Fz.R_drew)); exact HO263.out) hb); have n4_ := Aside0.mk (Kd.C_below (by repeat (first | (with_reducible exact HR271.out) | (with_reducible refine Kd.C_alloc ?_ _) | (with_reducible refine Kd.C_drewN ?_ _) | (with_reducible refine Kd.C_drew ?_) | exact HR271.out)) hb); have n5_ := Aside0.mk (below_step (by repeat (first | (with_reducible first | exact HB.out | apply below_alloc | apply pw_below_drewN | apply below_drew1) | exact HB.out)) hb); clear HO_14; clear HO251; clear HO254; clear HO263; clear HR271; clear HB; have HO_14 := n0_; have HO251 := n1_; have HO254 := n2_; have HO263 := n3_; have HR271 := n4_; have HB := n5_; clear n0_ n1_ n2_ n3_ n4_ n5_; (try clear hb); (try clear hb2); (try clear hk); (try clear hi)))
                              (try simp only [Act.put, List.setIfInBounds_toArray, List.set_cons_zero, List.set_cons_succ])
                              go_cut [147] (fun v147 wc => ∃ (kq : Nat) (x147_71 : Bool), v147 = .bool x147_71 ∧ Aside0 (portagelaw18_SlotForms.j1 kq t223 t227 t232 t265 t266 t267 t274 x147_71 = some r) ∧ Aside0 (kq ≤ kj12) ∧ Aside0 (Kd.C Kd.string wc (some ad248) y268.length y268) ∧ Aside0 (Below w.heap.size w wc))
                              case first =>
                                have H := HC72.out
                                clear HC72
                                by_cases c91 : (rd y252 (ji31)) = 2
                                · rw [if_pos c91] at H
                                  have c91b0 : ((rd y252 (ji31)) == 2) = true := beq_iff_eq.mpr c91
                                  have c91b1 : ((rd y252 (ji31)) != 2) = false := bne_eq_false_iff_eq.mpr c91
                                  clear c91
                                  (first | rw [c91b0] | (simp only [i64_w, i32_w]; rw [c91b0]) | skip)
                                  have H' := Aside0.mk H
                                  clear H
                                  go_wp2
                                  go_meet
                                  case rel => exact ⟨_, (true), (by first | rfl | (simp; done) | (simp [*]; done)), H', ⟨by have := HJ12.out; first | omega | exact Nat.le_refl _⟩, ⟨by repeat (first | (with_reducible exact HR271.out) | (with_reducible refine Kd.C_alloc ?_ _) | (with_reducible refine Kd.C_drewN ?_ _) | (with_reducible refine Kd.C_drew ?_) | exact HR271.out)⟩, ⟨by repeat (first | (with_reducible first | exact HB.out | apply below_alloc | apply pw_below_drewN | apply below_drew1) | exact HB.out)⟩⟩
                                · rw [if_neg c91] at H
                                  have c91b0 : ((rd y252 (ji31)) == 2) = false := beq_eq_false_iff_ne.mpr c91
                                  have c91b1 : ((rd y252 (ji31)) != 2) = true := bne_iff_ne.mpr c91
                                  (first | rw [c91b0] | (simp only [i64_w, i32_w]; rw [c91b0]) | skip)
                                  have H' := Aside0.mk H
                                  clear H
                                  go_wp2
                                  go_meet
                                  case rel => exact ⟨_, (((rd y252 (ji31)) == 3)), (by first | rfl | (simp; done) | (simp only [← hji31] <;> (first | rfl | simp)) | (simp [*]; done)), H', ⟨by have := HJ12.out; first | omega | exact Nat.le_refl _⟩, ⟨by repeat (first | (with_reducible exact HR271.out) | (with_reducible refine Kd.C_alloc ?_ _) | (with_reducible refine Kd.C_drewN ?_ _) | (with_reducible refine Kd.C_drew ?_) | exact HR271.out)⟩, ⟨by repeat (first | (with_reducible first | exact HB.out | apply below_alloc | apply pw_below_drewN | apply below_drew1) | exact HB.out)⟩⟩
                              case rest =>
                                clear HC72
                                try clear c1
                                try clear c2
                                try clear p2
                                try clear q2
                                try clear hx2
                                try clear qi2
                                try clear c3
                                try clear p3
                                try clear q3
                                try clear hx3
                                try clear qi3
                                try clear hf3
                                try clear c4
                                try clear c5
                                try clear p6
                                try clear hcv6
                                try clear q7
                                try clear q8
                                try clear hcv8
                                try clear c9
                                try clear c12
                                try clear c16
                                try clear c18
                                try clear p24
                                try clear q24
                                try clear hx24
                                try clear qi24
                                try clear c25
                                try clear p25
                                try clear q25
                                try clear hx25
                                try clear c26
                                try clear c26b0
                                try clear c26b1
                                try clear c27
                                try clear c27b0
                                try clear c27b1
                                try clear c28
                                try clear c29
                                try clear c29b0
                                try clear c29b1
                                try clear c30
                                try clear c30b0
                                try clear c30b1
                                try clear c30b2
                                try clear c31
                                try clear c32
                                try clear c32b0
                                try clear c33
                                try clear c33b0
                                try clear c34
                                try clear c34b0
                                try clear c35
                                try clear c35b0
                                try clear p36
                                try clear q36
                                try clear hx36
                                try clear hf36
                                try clear c37
                                try clear c38
                                try clear c38b0
                                try clear c38b1
                                try clear p39
                                try clear q39
                                try clear hx39
                                try clear qi39
                                try clear hf39
                                try clear c41
                                try clear c41b0
                                try clear c41b1
                                try clear c43
                                try clear c43b0
                                try clear c43b1
                                try clear c45
                                try clear c45b0
                                try clear c45b1
                                try clear c47
                                try clear c47b0
                                try clear c47b1
                                try clear c49
                                try clear c49b0
                                try clear c49b1
                                try clear c50
                                try clear c50b0
                                try clear c50b1
                                try clear c52
                                try clear c52b0
                                try clear c52b1
                                try clear p64
                                try clear hcv66
                                try clear q70
                                try clear hcv85
                                try clear q89
                                try clear c91
                                try clear c91b0
                                try clear c91b1
                                try clear hx248_0
                                try clear hx255_0
                                try clear hx256_0
                                try clear hx36_0
                                try clear hx39_0
                                try clear p2
                                try clear p248
                                try clear p255
                                try clear p256
                                try clear p36
                                try clear p39
                                try clear p6
                                try clear q248
                                try clear q255
                                try clear q256
                                try clear q36
                                try clear q39
                                try clear q70
                                try clear q89
                                obtain ⟨kq, x147_71, rfl, HA, HJ71, HR271, HB⟩ := hcut
                                cases kq with
                                | zero => exact absurd HA.out (by simp [portagelaw18_SlotForms.j1])
                                | succ kj71 =>
                                  have H := HA.out
                                  clear HA
                                  simp only [portagelaw18_SlotForms.j1] at H
                                  by_cases c92 : x147_71 = true
                                  · subst c92
                                    have H1 : ((portagelaw0_Num.f t223).bind fun t280 => (if t280 = 1800 then ((portagelaw0_Num.f t227).bind fun t281 => (if t281 = 1800 then ((portagelaw0_Num.f t232).bind fun t282 => (if t282 = 1800 then ((portagelaw0_Num.f t267).bind fun t283 => (if t283 = 1801 then (some true) else (if (Go.bits .and .i64 t265 1) = 0 then ((portagelaw18_text.f kj71 100 97).bind fun t284 => (some (t266.toList == t284.toList))) else (none)))) else (none))) else (none))) else (none))) = some r := by rw [if_pos rfl] at H; exact H
                                    clear H
                                    have H := H1
                                    clear H1
                                    replace H := Option.bind_eq_some_iff.mp H
                                    obtain ⟨t280, A930, H⟩ := H
                                    replace H : (if t280 = 1800 then ((portagelaw0_Num.f t227).bind fun t281 => (if t281 = 1800 then ((portagelaw0_Num.f t232).bind fun t282 => (if t282 = 1800 then ((portagelaw0_Num.f t267).bind fun t283 => (if t283 = 1801 then (some true) else (if (Go.bits .and .i64 t265 1) = 0 then ((portagelaw18_text.f kj71 100 97).bind fun t284 => (some (t266.toList == t284.toList))) else (none)))) else (none))) else (none))) else (none)) = some r := H
                                    have A93 := Aside0.mk A930
                                    clear A930
                                    by_cases c94 : t280 = 1800
                                    · rw [if_pos c94] at H
                                      have c94b0 : (t280 == 1800) = true := beq_iff_eq.mpr c94
                                      have c94b1 : (t280 != 1800) = false := bne_eq_false_iff_eq.mpr c94
                                      clear c94
                                      replace H := Option.bind_eq_some_iff.mp H
                                      obtain ⟨t281, A950, H⟩ := H
                                      replace H : (if t281 = 1800 then ((portagelaw0_Num.f t232).bind fun t282 => (if t282 = 1800 then ((portagelaw0_Num.f t267).bind fun t283 => (if t283 = 1801 then (some true) else (if (Go.bits .and .i64 t265 1) = 0 then ((portagelaw18_text.f kj71 100 97).bind fun t284 => (some (t266.toList == t284.toList))) else (none)))) else (none))) else (none)) = some r := H
                                      have A95 := Aside0.mk A950
                                      clear A950
                                      by_cases c96 : t281 = 1800
                                      · rw [if_pos c96] at H
                                        have c96b0 : (t281 == 1800) = true := beq_iff_eq.mpr c96
                                        have c96b1 : (t281 != 1800) = false := bne_eq_false_iff_eq.mpr c96
                                        clear c96
                                        replace H := Option.bind_eq_some_iff.mp H
                                        obtain ⟨t282, A970, H⟩ := H
                                        replace H : (if t282 = 1800 then ((portagelaw0_Num.f t267).bind fun t283 => (if t283 = 1801 then (some true) else (if (Go.bits .and .i64 t265 1) = 0 then ((portagelaw18_text.f kj71 100 97).bind fun t284 => (some (t266.toList == t284.toList))) else (none)))) else (none)) = some r := H
                                        have A97 := Aside0.mk A970
                                        clear A970
                                        by_cases c98 : t282 = 1800
                                        · rw [if_pos c98] at H
                                          have c98b0 : (t282 == 1800) = true := beq_iff_eq.mpr c98
                                          have c98b1 : (t282 != 1800) = false := bne_eq_false_iff_eq.mpr c98
                                          clear c98
                                          replace H := Option.bind_eq_some_iff.mp H
                                          obtain ⟨t283, A990, H⟩ := H
                                          replace H : (if t283 = 1801 then (some true) else (if (Go.bits .and .i64 t265 1) = 0 then ((portagelaw18_text.f kj71 100 97).bind fun t284 => (some (t266.toList == t284.toList))) else (none))) = some r := H
                                          have A99 := Aside0.mk A990
                                          clear A990
                                          by_cases c100 : t283 = 1801
                                          · rw [if_pos c100] at H
                                            have c100b0 : (t283 == 1801) = true := beq_iff_eq.mpr c100
                                            have c100b1 : (t283 != 1801) = false := bne_eq_false_iff_eq.mpr c100
                                            clear c100
                                            obtain rfl := Option.some.inj H
                                            go_wp2_with (first | ((with_reducible refine gate_callee (f := 18) rfl ?_); refine goesL_ (some 149) rfl rfl Try.func18 (by kernel_rfl) rfl #[.int .i64 t223] rfl (by (try simp only [List.map_toArray, List.map_cons, List.map_nil]); first | done | rfl | (simp only [List.length_drop, List.length_take]; rfl)) ?_; (with_reducible refine (portagelaw0_Num.calls t223 t280 _ A93.out).mono ?_); rintro e w' ⟨rfl, ⟨nd, rfl⟩⟩; refine ⟨_, rfl, ?_⟩) | (go_at_call 18; (with_reducible refine (portagelaw0_Num.calls t227 t281 _ A95.out).mono ?_); rintro e w' ⟨rfl, ⟨nd, rfl⟩⟩) | (go_at_call 18; (with_reducible refine (portagelaw0_Num.calls t232 t282 _ A97.out).mono ?_); rintro e w' ⟨rfl, ⟨nd, rfl⟩⟩) | (go_at_call 18; (with_reducible refine (portagelaw0_Num.calls t267 t283 _ A99.out).mono ?_); rintro e w' ⟨rfl, ⟨nd, rfl⟩⟩))
                                            go_ret
                                            exact ⟨by first | rfl | (simp [errW_none, errW_some] <;> rfl) | (simp only [← hji31]; first | rfl | (simp [errW_none, errW_some] <;> rfl)) | (simp [*, errW_none, errW_some] <;> rfl), by repeat (first | (with_reducible first | exact HB.out | apply below_alloc | apply pw_below_drewN | apply below_drew1) | exact HB.out)⟩
                                          · rw [if_neg c100] at H
                                            have c100b0 : (t283 == 1801) = false := beq_eq_false_iff_ne.mpr c100
                                            have c100b1 : (t283 != 1801) = true := bne_iff_ne.mpr c100
                                            by_cases c101 : (Go.bits .and .i64 t265 1) = 0
                                            · rw [if_pos c101] at H
                                              have c101b0 : ((Go.bits .and .i64 t265 1) == 0) = true := beq_iff_eq.mpr c101
                                              have c101b1 : ((Go.bits .and .i64 t265 1) != 0) = false := bne_eq_false_iff_eq.mpr c101
                                              clear c101
                                              replace H := Option.bind_eq_some_iff.mp H
                                              obtain ⟨t284, A1020, H⟩ := H
                                              replace H : (some (t266.toList == t284.toList)) = some r := H
                                              have A102 := Aside0.mk A1020
                                              clear A1020
                                              obtain rfl := Option.some.inj H
                                              go_wp2_with (first | ((with_reducible refine gate_callee (f := 18) rfl ?_); refine goesL_ (some 149) rfl rfl Try.func18 (by kernel_rfl) rfl #[.int .i64 t223] rfl (by (try simp only [List.map_toArray, List.map_cons, List.map_nil]); first | done | rfl | (simp only [List.length_drop, List.length_take]; rfl)) ?_; (with_reducible refine (portagelaw0_Num.calls t223 t280 _ A93.out).mono ?_); rintro e w' ⟨rfl, ⟨nd, rfl⟩⟩; refine ⟨_, rfl, ?_⟩) | (go_at_call 18; (with_reducible refine (portagelaw0_Num.calls t227 t281 _ A95.out).mono ?_); rintro e w' ⟨rfl, ⟨nd, rfl⟩⟩) | (go_at_call 18; (with_reducible refine (portagelaw0_Num.calls t232 t282 _ A97.out).mono ?_); rintro e w' ⟨rfl, ⟨nd, rfl⟩⟩) | (go_at_call 18; (with_reducible refine (portagelaw0_Num.calls t267 t283 _ A99.out).mono ?_); rintro e w' ⟨rfl, ⟨nd, rfl⟩⟩) | (go_at_call 32; (with_reducible refine (portagelaw18_text.calls kj71 100 97 t284 _ A102.out).mono ?_); rintro e w103 ⟨rfl, hb⟩; have n0_ := Aside0.mk (Kd.C_below (by repeat (first | (with_reducible exact HR271.out) | (with_reducible refine Kd.C_alloc ?_ _) | (with_reducible refine Kd.C_drewN ?_ _) | (with_reducible refine Kd.C_drew ?_) | exact HR271.out)) hb); have n1_ := Aside0.mk (below_step (by repeat (first | (with_reducible first | exact HB.out | apply below_alloc | apply pw_below_drewN | apply below_drew1) | exact HB.out)) hb); clear HR271; clear HB; have HR271 := n0_; have HB := n1_; clear n0_ n1_; (try clear hb); (try clear hb2); (try clear hk); (try clear hi)))
                                              go_ret
                                              exact ⟨by first | rfl | (simp [errW_none, errW_some] <;> rfl) | (simp only [← hji31]; first | rfl | (simp [errW_none, errW_some] <;> rfl)) | (simp [*, errW_none, errW_some] <;> rfl), by repeat (first | (with_reducible first | exact HB.out | apply below_alloc | apply pw_below_drewN | apply below_drew1) | exact HB.out)⟩
                                            · rw [if_neg c101] at H
                                              exact absurd H (by simp)
                                        · rw [if_neg c98] at H
                                          exact absurd H (by simp)
                                      · rw [if_neg c96] at H
                                        exact absurd H (by simp)
                                    · rw [if_neg c94] at H
                                      exact absurd H (by simp)
                                  · replace c92 := Bool.eq_false_iff.mpr c92
                                    subst c92
                                    have H1 : ((portagelaw0_Num.f t223).bind fun t285 => (if t285 = 1800 then ((portagelaw0_Num.f t227).bind fun t286 => (if t286 = 1800 then ((portagelaw0_Num.f t232).bind fun t287 => (if t287 = 1800 then (if t265 = 0 then (if t266.toList = ([] : List UInt8) then ((portagelaw0_Num.f t267).bind fun t288 => (if t288 = 1801 then ((portagelaw0_Num.f t274).bind fun t289 => (some (t289 == 1800))) else (none))) else (none)) else (none)) else (none))) else (none))) else (none))) = some r := by rw [if_neg (show ¬ (false = true) by decide)] at H; exact H
                                    clear H
                                    have H := H1
                                    clear H1
                                    replace H := Option.bind_eq_some_iff.mp H
                                    obtain ⟨t285, A1040, H⟩ := H
                                    replace H : (if t285 = 1800 then ((portagelaw0_Num.f t227).bind fun t286 => (if t286 = 1800 then ((portagelaw0_Num.f t232).bind fun t287 => (if t287 = 1800 then (if t265 = 0 then (if t266.toList = ([] : List UInt8) then ((portagelaw0_Num.f t267).bind fun t288 => (if t288 = 1801 then ((portagelaw0_Num.f t274).bind fun t289 => (some (t289 == 1800))) else (none))) else (none)) else (none)) else (none))) else (none))) else (none)) = some r := H
                                    have A104 := Aside0.mk A1040
                                    clear A1040
                                    by_cases c105 : t285 = 1800
                                    · rw [if_pos c105] at H
                                      have c105b0 : (t285 == 1800) = true := beq_iff_eq.mpr c105
                                      have c105b1 : (t285 != 1800) = false := bne_eq_false_iff_eq.mpr c105
                                      clear c105
                                      replace H := Option.bind_eq_some_iff.mp H
                                      obtain ⟨t286, A1060, H⟩ := H
                                      replace H : (if t286 = 1800 then ((portagelaw0_Num.f t232).bind fun t287 => (if t287 = 1800 then (if t265 = 0 then (if t266.toList = ([] : List UInt8) then ((portagelaw0_Num.f t267).bind fun t288 => (if t288 = 1801 then ((portagelaw0_Num.f t274).bind fun t289 => (some (t289 == 1800))) else (none))) else (none)) else (none)) else (none))) else (none)) = some r := H
                                      have A106 := Aside0.mk A1060
                                      clear A1060
                                      by_cases c107 : t286 = 1800
                                      · rw [if_pos c107] at H
                                        have c107b0 : (t286 == 1800) = true := beq_iff_eq.mpr c107
                                        have c107b1 : (t286 != 1800) = false := bne_eq_false_iff_eq.mpr c107
                                        clear c107
                                        replace H := Option.bind_eq_some_iff.mp H
                                        obtain ⟨t287, A1080, H⟩ := H
                                        replace H : (if t287 = 1800 then (if t265 = 0 then (if t266.toList = ([] : List UInt8) then ((portagelaw0_Num.f t267).bind fun t288 => (if t288 = 1801 then ((portagelaw0_Num.f t274).bind fun t289 => (some (t289 == 1800))) else (none))) else (none)) else (none)) else (none)) = some r := H
                                        have A108 := Aside0.mk A1080
                                        clear A1080
                                        by_cases c109 : t287 = 1800
                                        · rw [if_pos c109] at H
                                          have c109b0 : (t287 == 1800) = true := beq_iff_eq.mpr c109
                                          have c109b1 : (t287 != 1800) = false := bne_eq_false_iff_eq.mpr c109
                                          clear c109
                                          by_cases c110 : t265 = 0
                                          · rw [if_pos c110] at H
                                            have c110b0 : (t265 == 0) = true := beq_iff_eq.mpr c110
                                            have c110b1 : (t265 != 0) = false := bne_eq_false_iff_eq.mpr c110
                                            clear c110
                                            by_cases c111 : t266.toList = ([] : List UInt8)
                                            · rw [if_pos c111] at H
                                              have c111b0 : (t266.toList == ([] : List UInt8)) = true := beq_iff_eq.mpr c111
                                              have c111b1 : (t266.toList != ([] : List UInt8)) = false := bne_eq_false_iff_eq.mpr c111
                                              clear c111
                                              replace H := Option.bind_eq_some_iff.mp H
                                              obtain ⟨t288, A1120, H⟩ := H
                                              replace H : (if t288 = 1801 then ((portagelaw0_Num.f t274).bind fun t289 => (some (t289 == 1800))) else (none)) = some r := H
                                              have A112 := Aside0.mk A1120
                                              clear A1120
                                              by_cases c113 : t288 = 1801
                                              · rw [if_pos c113] at H
                                                have c113b0 : (t288 == 1801) = true := beq_iff_eq.mpr c113
                                                have c113b1 : (t288 != 1801) = false := bne_eq_false_iff_eq.mpr c113
                                                clear c113
                                                replace H := Option.bind_eq_some_iff.mp H
                                                obtain ⟨t289, A1140, H⟩ := H
                                                replace H : (some (t289 == 1800)) = some r := H
                                                have A114 := Aside0.mk A1140
                                                clear A1140
                                                obtain rfl := Option.some.inj H
                                                go_wp2_with (first | ((with_reducible refine gate_callee (f := 18) rfl ?_); refine goesL_ (some 177) rfl rfl Try.func18 (by kernel_rfl) rfl #[.int .i64 t223] rfl (by (try simp only [List.map_toArray, List.map_cons, List.map_nil]); first | done | rfl | (simp only [List.length_drop, List.length_take]; rfl)) ?_; (with_reducible refine (portagelaw0_Num.calls t223 t285 _ A104.out).mono ?_); rintro e w' ⟨rfl, ⟨nd, rfl⟩⟩; refine ⟨_, rfl, ?_⟩) | (go_at_call 18; (with_reducible refine (portagelaw0_Num.calls t227 t286 _ A106.out).mono ?_); rintro e w' ⟨rfl, ⟨nd, rfl⟩⟩) | (go_at_call 18; (with_reducible refine (portagelaw0_Num.calls t232 t287 _ A108.out).mono ?_); rintro e w' ⟨rfl, ⟨nd, rfl⟩⟩) | (go_at_call 18; (with_reducible refine (portagelaw0_Num.calls t267 t288 _ A112.out).mono ?_); rintro e w' ⟨rfl, ⟨nd, rfl⟩⟩) | (go_at_call 18; (with_reducible refine (portagelaw0_Num.calls t274 t289 _ A114.out).mono ?_); rintro e w' ⟨rfl, ⟨nd, rfl⟩⟩))
                                                go_ret
                                                exact ⟨by first | rfl | (simp [errW_none, errW_some] <;> rfl) | (simp only [← hji31]; first | rfl | (simp [errW_none, errW_some] <;> rfl)) | (simp [*, errW_none, errW_some] <;> rfl), by repeat (first | (with_reducible first | exact HB.out | apply below_alloc | apply pw_below_drewN | apply below_drew1) | exact HB.out)⟩
                                              · rw [if_neg c113] at H
                                                exact absurd H (by simp)
                                            · rw [if_neg c111] at H
                                              exact absurd H (by simp)
                                          · rw [if_neg c110] at H
                                            exact absurd H (by simp)
                                        · rw [if_neg c109] at H
                                          exact absurd H (by simp)
                                      · rw [if_neg c107] at H
                                        exact absurd H (by simp)
                                    · rw [if_neg c105] at H
                                      exact absurd H (by simp)
                          · rw [if_neg c41] at H
                            exact absurd H (by simp)
                        · rw [if_neg c38] at H
                          exact absurd H (by simp)
                      · rw [if_neg c37] at H
                        exact absurd H (by simp)
                    · rw [if_neg c35] at H
                      exact absurd H (by simp)
                  · rw [if_neg c34] at H
                    exact absurd H (by simp)
                · rw [if_neg c33] at H
                  exact absurd H (by simp)
              · rw [if_neg c32] at H
                exact absurd H (by simp)
            · rw [if_neg c30] at H
              exact absurd H (by simp)
          · rw [if_neg c29] at H
            exact absurd H (by simp)
  · replace c4 := Bool.eq_false_iff.mpr c4
    subst c4
    have H1 : (none) = some r := by rw [if_neg (show ¬ (false = true) by decide)] at H; exact H
    clear H
    have H := H1
    clear H1
    exact absurd H (by simp)

/-- THE ONE PURE STATEMENT of portagelaw18_SlotForms: yours. -/
def portagelaw18_SlotForms.Pure : Prop := ∀ (a0 : Int) (a1 : Int), (Lit.int .i64 a0).wf = true → (Lit.int .i64 a1).wf = true → ∃ k, portagelaw18_SlotForms.f k a0 a1 = some true
theorem portagelaw18_SlotForms.walk (P : portagelaw18_SlotForms.Pure) (a0 : Int) (a1 : Int) (w : World) (w0 : (Lit.int .i64 a0).wf = true) (w1 : (Lit.int .i64 a1).wf = true) :
    Calls Try.prog 9 #[.int .i64 a0, .int .i64 a1] w fun e w' => e = .returned (.bool true) ∧ Below w.heap.size w w' := by
  obtain ⟨k, h⟩ := P a0 a1 w0 w1
  refine (portagelaw18_SlotForms.calls k a0 a1 true w h).mono ?_
  rintro e w' ⟨rfl, hd⟩
  exact ⟨rfl, hd⟩

end Go.Proofs.Ytdccnjinehcenaa.LF
