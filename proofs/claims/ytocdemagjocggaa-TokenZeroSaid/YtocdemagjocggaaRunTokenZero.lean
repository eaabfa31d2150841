/- The runs of TokenZero by the kernel: all arguments. -/
import Derived.Test.YtocdemagjocggaaDxDT
import Derived.Test.YtocdemagjocggaaDx21
namespace Go.Dx.SYtocdemagjocggaa
open Go.Proofs
def tokenZeroMk (n : Nat) : List Value := [.int .u8 n]
set_option maxRecDepth 100000 in
theorem tokenZero_runs0 : allRuns T 300 13 tokenZeroMk 32 0 = true := by kernel_rfl
set_option maxRecDepth 100000 in
theorem tokenZero_runs1 : allRuns T 300 13 tokenZeroMk 32 32 = true := by kernel_rfl
set_option maxRecDepth 100000 in
theorem tokenZero_runs2 : allRuns T 300 13 tokenZeroMk 32 64 = true := by kernel_rfl
set_option maxRecDepth 100000 in
theorem tokenZero_runs3 : allRuns T 300 13 tokenZeroMk 32 96 = true := by kernel_rfl
set_option maxRecDepth 100000 in
theorem tokenZero_runs4 : allRuns T 300 13 tokenZeroMk 32 128 = true := by kernel_rfl
set_option maxRecDepth 100000 in
theorem tokenZero_runs5 : allRuns T 300 13 tokenZeroMk 32 160 = true := by kernel_rfl
set_option maxRecDepth 100000 in
theorem tokenZero_runs6 : allRuns T 300 13 tokenZeroMk 32 192 = true := by kernel_rfl
set_option maxRecDepth 100000 in
theorem tokenZero_runs7 : allRuns T 300 13 tokenZeroMk 32 224 = true := by kernel_rfl
theorem tokenZero_fn {n : Int} (hn : (Lit.int .u8 n).wf = true) : Fn Try.prog 13 [.int .u8 n] Heap.empty fun v _ => v = .bool true := by
  obtain ⟨m, rfl, hm⟩ := u8_range hn
  refine fn_of_true (n := 300) T.ok ?_
  show isTrue (fnR T 300 13 (tokenZeroMk m) Heap.empty) = true
  by_cases h0 : m < 32
  · exact allRuns_ok 32 0 tokenZero_runs0 m (by omega) (by omega)
  by_cases h1 : m < 64
  · exact allRuns_ok 32 32 tokenZero_runs1 m (by omega) (by omega)
  by_cases h2 : m < 96
  · exact allRuns_ok 32 64 tokenZero_runs2 m (by omega) (by omega)
  by_cases h3 : m < 128
  · exact allRuns_ok 32 96 tokenZero_runs3 m (by omega) (by omega)
  by_cases h4 : m < 160
  · exact allRuns_ok 32 128 tokenZero_runs4 m (by omega) (by omega)
  by_cases h5 : m < 192
  · exact allRuns_ok 32 160 tokenZero_runs5 m (by omega) (by omega)
  by_cases h6 : m < 224
  · exact allRuns_ok 32 192 tokenZero_runs6 m (by omega) (by omega)
  · exact allRuns_ok 32 224 tokenZero_runs7 m (by omega) (by omega)
end Go.Dx.SYtocdemagjocggaa
