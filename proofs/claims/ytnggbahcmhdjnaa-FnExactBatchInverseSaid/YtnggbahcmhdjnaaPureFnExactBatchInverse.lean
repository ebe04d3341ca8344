/- The law FnExactBatchInverse: no conditions. -/
import Derived.Test.YtnggbahcmhdjnaaPrint20
import Derived.Test.YtnggbahcmhdjnaaPureSI
import Derived.Test.YtnggbahcmhdjnaaPureSIm
import Derived.Test.YtnggbahcmhdjnaaPureB
import Derived.Test.YtnggbahcmhdjnaaPureF
namespace Go.Proofs.Ytnggbahcmhdjnaa.Pure
open Go.RowKit Go.Proofs.Ytnggbahcmhdjnaa.Print Go.Proofs.YtnggbahcmhdjnaaW.PrintWords Go.Proofs.YtnggbahcmhdjnaaW.PrintLast
set_option linter.unusedSimpArgs false
set_option linter.unusedVariables false


set_option maxRecDepth 4000 in
theorem FnExactBatchInverse : laws_FnExactBatchInverse.Pure := by
  intro l hm _ hw
  refine Ev.rounds (g := fun k => laws_FnExactBatchInverse.f k l) ?_
  unfold laws_FnExactBatchInverse.f
  by_cases h : (l.length : Int) > 1048576
  · exact ev_pos h (Ev.now _)
  · refine ev_neg h ?_
    have hto := ev_val (laws_toIntS_ev l (by omega)) (List.map_id' l)
    have hB := batch_length l
    refine ev_bind hto (ev_bind (spec_batch_ev l) (ev_bind hto (ev_bind (impl_batch_ev l) (ev_bind (laws_eqIntS_ev _ (by omega)) ?_))))
    refine ev_pos rfl ?_
    simp only [bne_self_eq_false]
    refine Ev.step (fun k => by rw [laws_FnExactBatchInverse.j0, if_neg (by decide)]) ?_
    refine ev_bind hto (ev_bind (laws_eqIntS_ev _ (by omega)) (ev_pos rfl (ev_bind (laws_markIntS_ev _ (by omega)) (ev_neg (by simp only []; omega) (ev_bind (laws_eqIntS_ev _ (by omega)) (ev_pos rfl ?_))))))
    simp only [bne_self_eq_false]
    refine Ev.step (fun k => by rw [laws_FnExactBatchInverse.j1, if_neg (by decide)]) ?_
    refine ev_bind (laws_markIntS_ev _ (by omega)) (ev_bind (laws_heldIntS_ev _ (by omega)) (ev_neg (by omega) (ev_pos rfl ?_)))
    refine ev_bind hto (ev_bind (impl_batch_ev l) (ev_bind (laws_eqIntS_ev _ (by omega)) (ev_pos rfl ?_)))
    simp only [bne_self_eq_false]
    refine Ev.step (fun k => by rw [laws_FnExactBatchInverse.j2, if_neg (by decide)]) ?_
    exact ev_bind (laws_heldIntS_ev _ (by omega)) (ev_neg (by omega) (ev_pos rfl (Ev.now _)))

end Go.Proofs.Ytnggbahcmhdjnaa.Pure
