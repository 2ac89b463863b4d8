/- OctetReads and OctetWide as their rows want them. -/
import Derived.Test.YtcofnmeocpedoaaF2
set_option linter.unusedVariables false
namespace Go.Proofs.Ytcofnmeocpedoaa.F
open Go.RowKit S X E D
theorem reads_calls {w : World} (a0 : ByteArray) (w0 : a0.size ≤ 140737488351232) (a1 : Int) (w1 : (Lit.int .u64 a1).wf = true) (a2 : Int) (w2 : (Lit.int .i64 a2).wf = true) :
    Calls Try.prog 3 #[.string a0, .int .u64 a1, .int .i64 a2] w fun e w' => e = .returned (.bool true) ∧ Below w.heap.size w w' := by
  obtain ⟨n0, h1, h2, h3⟩ := cut_any a0 500
  obtain ⟨n, rfl⟩ := Int.eq_ofNat_of_zero_le (wf_u64 w1).1
  exact reads_walk (a0.extract 0 n0) (by rw [extract_size a0 n0 h2]; exact h3) n (by have := (wf_u64 w1).2; omega) a2 w n0 a0 h1 h2 rfl
theorem wide_calls {w : World} (a0 : Int) (w0 : (Lit.int .u64 a0).wf = true) (a1 : ByteArray) (w1 : a1.size ≤ 140737488351232) :
    Calls Try.prog 4 #[.int .u64 a0, .string a1] w fun e w' => e = .returned (.bool true) ∧ Below w.heap.size w w' := by
  obtain ⟨n0, h1, h2, h3⟩ := cut_any a1 200
  obtain ⟨n, rfl⟩ := Int.eq_ofNat_of_zero_le (wf_u64 w0).1
  exact wide_walk n (by have := (wf_u64 w0).2; omega) a1 (a1.extract 0 n0) w n0 (by rw [extract_size a1 n0 h2]; exact h3) h1 h2 rfl
end Go.Proofs.Ytcofnmeocpedoaa.F
