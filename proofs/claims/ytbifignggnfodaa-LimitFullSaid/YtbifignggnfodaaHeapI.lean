/- The heap's methods as they are found behind the interface value. -/
import Derived.Test.YtbifignggnfodaaHeapB
namespace Go.Proofs.Ytbifignggnfodaa.HeapA
open Go.RowKit Go.Proofs.YtbifignggnfodaaW.PrintWords Go.Proofs.YtbifignggnfodaaW.PrintLast Go.Proofs.YtbifignggnfodaaW.PrintMore Go.Proofs.Ytbifignggnfodaa.HeapM
theorem wrapNil (hb : Nat) (W : World) (x : String) : (Builtin.ssaWrapNilChk_ #[122] 122 #[.pointer (some ⟨hb, 0, none⟩), strVal "", strVal x]).run Try.prog W = .ok (.pointer (some ⟨hb, 0, none⟩)) W := by first | kernel_rfl | rfl
/-- A method on the value, called through the interface: the slice behind the pointer is its receiver. -/
theorem meth_val (nm : String) (f : FuncId) (hq : (((Try.prog.info? 122).getD default).methods.find? (·.name == nm)).map (fun m => (m.path, m.func)) = some (#[], some (f, false))) (hb : Nat) (W : World) (A : Option Addr) (n c : Nat) (hc : W.cell? ⟨hb, 0, none⟩ = some (.slice A n c)) : (method 256 122 (.pointer (some ⟨hb, 0, none⟩)) nm).run Try.prog W = .ok (f, .slice A n c) W := by
  have ht : (typeInfo 122).run Try.prog W = .ok ((Try.prog.info? 122).getD default) W := by kernel_rfl
  obtain ⟨m, hm, hmp⟩ := Option.map_eq_some_iff.1 hq
  obtain ⟨hm1, hm2⟩ := Prod.mk.inj hmp
  have u := Try.underlying117
  have u2 := Try.underlying122
  show (method (255 + 1) 122 (.pointer (some ⟨hb, 0, none⟩)) nm).run Try.prog W = _
  rw [method]
  simp only [Sem.run_bind, ht, Result.andThen_ok, hm, hm1, hm2]
  simp [follow, receiverAt, Place.get, run_underlying u2, go_sem, hc, wrapNil]
theorem meth_less (hb : Nat) (W : World) (A : Option Addr) (n c : Nat) (hc : W.cell? ⟨hb, 0, none⟩ = some (.slice A n c)) : (method 256 122 (.pointer (some ⟨hb, 0, none⟩)) "Less").run Try.prog W = .ok (120, .slice A n c) W := meth_val "Less" 120 (by kernel_rfl) hb W A n c hc
theorem meth_swap (hb : Nat) (W : World) (A : Option Addr) (n c : Nat) (hc : W.cell? ⟨hb, 0, none⟩ = some (.slice A n c)) : (method 256 122 (.pointer (some ⟨hb, 0, none⟩)) "Swap").run Try.prog W = .ok (121, .slice A n c) W := meth_val "Swap" 121 (by kernel_rfl) hb W A n c hc
theorem meth_len (hb : Nat) (W : World) (A : Option Addr) (n c : Nat) (hc : W.cell? ⟨hb, 0, none⟩ = some (.slice A n c)) : (method 256 122 (.pointer (some ⟨hb, 0, none⟩)) "Len").run Try.prog W = .ok (94, .slice A n c) W := meth_val "Len" 94 (by kernel_rfl) hb W A n c hc
theorem meth_pop (hb : Nat) (W : World) : (method 256 122 (.pointer (some ⟨hb, 0, none⟩)) "Pop").run Try.prog W = .ok (122, .pointer (some ⟨hb, 0, none⟩)) W := by kernel_rfl
theorem meth_push (hb : Nat) (W : World) : (method 256 122 (.pointer (some ⟨hb, 0, none⟩)) "Push").run Try.prog W = .ok (123, .pointer (some ⟨hb, 0, none⟩)) W := by kernel_rfl
end Go.Proofs.Ytbifignggnfodaa.HeapA
