import Derived.Test.YtnjbbfcknijcnaaVecRL
import Derived.Test.YtnjbbfcknijcnaaL9
namespace Go.Proofs.Ytnjbbfcknijcnaa.Pure
set_option linter.unusedVariables false
set_option linter.unusedSimpArgs false
open Go.RowKit Go.Proofs.Ytnjbbfcknijcnaa.L Go.Proofs.YtnjbbfcknijcnaaW.PrintWords Go.Proofs.YtnjbbfcknijcnaaW.PrintLast Go.Proofs.YtnjbbfcknijcnaaW.PrintMore
theorem Vectors : portagelaw11_Vectors.Pure := by
  intro a b n _ ha _ _ hb _ _
  have hK : ∃ k, k = 100 + a.length + b.length := ⟨_, rfl⟩
  obtain ⟨k, hk⟩ := hK
  refine ⟨k, ?_⟩
  obtain ⟨o, e, h1, h2⟩ := reforder_k a b (by omega) (by omega) (k := k) (by omega)
  obtain ⟨j, g, hj, h3, h4⟩ := refjoin_k a b (by omega) (by omega) (k := k) (by omega)
  obtain ⟨s, i, hs, h5, h6⟩ := refstep_k a n (by omega) (k := k) (by omega)
  obtain ⟨r1, h7⟩ := spoil_k j hj (k := k) (by omega)
  obtain ⟨r2, h8⟩ := spoil_k s hs (k := k) (by omega)
  unfold portagelaw11_Vectors.f
  rw [lend_k a (by omega), lend_k b (by omega), Option.bind_some, Option.bind_some]
  dsimp only
  rw [h1, Option.bind_some, h2, Option.bind_some, h3, Option.bind_some, h4, Option.bind_some, h5, Option.bind_some, h6, Option.bind_some]
  dsimp only
  rw [if_pos rfl, num_k, Option.bind_some, if_pos rfl, same_k j j (by omega) (by omega), decide_eq_true rfl, Option.bind_some, if_pos rfl, num_k, Option.bind_some, if_pos rfl,
    same_k s s (by omega) (by omega), decide_eq_true rfl, Option.bind_some, if_pos rfl, num_k, Option.bind_some, if_pos rfl, may_k a (by omega), Option.bind_some, refmay_k a (by omega) (by omega), Option.bind_some,
    if_neg (by simp), h7, Option.bind_some, h8, Option.bind_some, kept_k a (by omega) (by omega), Option.bind_some, if_pos rfl, kept_k b (by omega) (by omega), Option.bind_some, if_pos rfl, awake_true (by omega)]
  rfl
end Go.Proofs.Ytnjbbfcknijcnaa.Pure
