/- DERIVED. The walk of BlobNil. -/
import Derived.Test.YtmfhkgfgphdliaaAwake
namespace Go.Proofs.Ytmfhkgfgphdliaa.NilWalk
open Go.RowKit Go.Proofs.Ytmfhkgfgphdliaa.Mem Go.Proofs.Ytmfhkgfgphdliaa.Fns
set_option linter.unusedVariables false
set_option linter.unusedSimpArgs false
set_option maxHeartbeats 1000000 in
theorem law (n : Int) (w : World) : Calls Try.prog 7 #[.int .i64 n] w fun e w' => e = .returned (.bool true) ∧ Below w.heap.size w w' := by
  have hb0 := Lib.hid (below1 w (.cells #[.int .i64 n] 2))
  go_enter Try.func7, Try.ntmps7
  go_wp2_with fail
  refine (Awake.awake _).mono ?_
  rintro e w1 ⟨rfl, hb1⟩
  have HB1 := Lib.hid (step2 hb0.out hb0.out.size hb1)
  clear hb1 hb0
  go_wp2_with fail
  refine (slice_nil w1 _ _ _).mono ?_
  rintro e w2 ⟨rfl, rfl⟩
  go_wp2_with fail
  refine (bytes_nil w1).mono ?_
  rintro e w2 ⟨rfl, rfl⟩
  go_wp2_with fail
  refine (kindM_nil w1).mono ?_
  rintro e w2 ⟨rfl, rfl⟩
  go_wp2_with fail
  refine (len_nil w1).mono ?_
  rintro e w2 ⟨rfl, rfl⟩
  go_wp2_with fail
  go_ret
  exact ⟨rfl, HB1.out⟩
end Go.Proofs.Ytmfhkgfgphdliaa.NilWalk
