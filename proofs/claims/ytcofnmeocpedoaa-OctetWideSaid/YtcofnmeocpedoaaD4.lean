/- The walks of the statements on parts. -/
import Derived.Test.YtcofnmeocpedoaaD3
import Derived.Test.YtcofnmeocpedoaaOpen
import Derived.ProofKit
set_option linter.unusedVariables false
namespace Go.Proofs.Ytcofnmeocpedoaa.D
open Go.RowKit Go.Proofs.YtcofnmeocpedoaaW.PrintWords Go.Proofs.YtcofnmeocpedoaaW.PrintLast Go.Proofs.YtcofnmeocpedoaaW.PrintMore
open S X E
theorem wf_u64 {a : Int} (h : (Lit.int .u64 a).wf = true) : 0 ≤ a ∧ a < 18446744073709551616 := by
  have : 0 ≤ a ∧ a ≤ 18446744073709551615 := by simpa [Lit.wf, IntKind.min, IntKind.max, IntKind.signed, IntKind.bits] using h
  omega
theorem wf_i64 {a : Int} (h : (Lit.int .i64 a).wf = true) : -9223372036854775808 ≤ a ∧ a ≤ 9223372036854775807 := by
  simpa [Lit.wf, IntKind.min, IntKind.max, IntKind.signed, IntKind.bits] using h
theorem packs_calls {w : World} (A0 : Option Addr) (c0 : Nat) (l0 : List ByteArray) (hr0 : Kd.C Kd.string w A0 l0.length l0) (hc0 : l0.length ≤ c0) (hb0 : l0.length * 16 ≤ 140737488351232) (a1 : ByteArray) (w1 : a1.size ≤ 140737488351232) :
    Calls Try.prog 5 #[.slice A0 l0.length c0, .string a1] w fun e w' => e = .returned (.bool true) ∧ Below w.heap.size w w' :=
  imprimaturlaw01_OctetPacks.calls 80001 A0 c0 l0 a1 true w hr0 hc0 (packs_f l0 a1 (by omega) 80001 (by omega))
theorem back_calls {w : World} (A0 : Option Addr) (c0 : Nat) (l0 : List ByteArray) (hr0 : Kd.C Kd.string w A0 l0.length l0) (hc0 : l0.length ≤ c0) (hb0 : l0.length * 16 ≤ 140737488351232) (a1 : ByteArray) (w1 : a1.size ≤ 140737488351232) (a2 : Int) (w2 : (Lit.int .u64 a2).wf = true) :
    Calls Try.prog 6 #[.slice A0 l0.length c0, .string a1, .int .u64 a2] w fun e w' => e = .returned (.bool true) ∧ Below w.heap.size w w' :=
  imprimaturlaw01_OctetBack.calls 90001 A0 c0 l0 a1 a2 true w hr0 hc0 (back_f l0 a1 a2 (by omega) (wf_u64 w2).1 (wf_u64 w2).2 90001 (by omega))
theorem apart_calls {w : World} (A0 : Option Addr) (c0 : Nat) (l0 : List ByteArray) (hr0 : Kd.C Kd.string w A0 l0.length l0) (hc0 : l0.length ≤ c0) (hb0 : l0.length * 16 ≤ 140737488351232) (A1 : Option Addr) (c1 : Nat) (l1 : List ByteArray) (hr1 : Kd.C Kd.string w A1 l1.length l1) (hc1 : l1.length ≤ c1) (hb1 : l1.length * 16 ≤ 140737488351232) (a2 : Int) (w2 : (Lit.int .i64 a2).wf = true) :
    Calls Try.prog 7 #[.slice A0 l0.length c0, .slice A1 l1.length c1, .int .i64 a2] w fun e w' => e = .returned (.bool true) ∧ Below w.heap.size w w' :=
  imprimaturlaw01_OctetApart.calls 90001 A0 c0 l0 A1 c1 l1 a2 true w hr0 hc0 hr1 hc1 (apart_f l0 l1 a2 (by omega) (by omega) (wf_i64 w2).1 (wf_i64 w2).2 90001 (by omega))
end Go.Proofs.Ytcofnmeocpedoaa.D
