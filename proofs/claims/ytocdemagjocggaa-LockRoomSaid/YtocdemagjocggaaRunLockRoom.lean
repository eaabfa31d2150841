/- The runs of LockRoom by the kernel: all arguments. -/
import Derived.Test.YtocdemagjocggaaDxBT
import Derived.Test.YtocdemagjocggaaDx21
namespace Go.Dx.SYtocdemagjocggaa
open Go.Proofs
def lockRoomMk (n : Nat) : List Value := [.int .u8 n]
set_option maxRecDepth 100000 in
theorem lockRoom_runs0 : allRuns T 300 7 lockRoomMk 32 0 = true := by kernel_rfl
set_option maxRecDepth 100000 in
theorem lockRoom_runs1 : allRuns T 300 7 lockRoomMk 32 32 = true := by kernel_rfl
set_option maxRecDepth 100000 in
theorem lockRoom_runs2 : allRuns T 300 7 lockRoomMk 32 64 = true := by kernel_rfl
set_option maxRecDepth 100000 in
theorem lockRoom_runs3 : allRuns T 300 7 lockRoomMk 32 96 = true := by kernel_rfl
set_option maxRecDepth 100000 in
theorem lockRoom_runs4 : allRuns T 300 7 lockRoomMk 32 128 = true := by kernel_rfl
set_option maxRecDepth 100000 in
theorem lockRoom_runs5 : allRuns T 300 7 lockRoomMk 32 160 = true := by kernel_rfl
set_option maxRecDepth 100000 in
theorem lockRoom_runs6 : allRuns T 300 7 lockRoomMk 32 192 = true := by kernel_rfl
set_option maxRecDepth 100000 in
theorem lockRoom_runs7 : allRuns T 300 7 lockRoomMk 32 224 = true := by kernel_rfl
theorem lockRoom_fn {n : Int} (hn : (Lit.int .u8 n).wf = true) : Fn Try.prog 7 [.int .u8 n] Heap.empty fun v _ => v = .bool true := by
  obtain ⟨m, rfl, hm⟩ := u8_range hn
  refine fn_of_true (n := 300) T.ok ?_
  show isTrue (fnR T 300 7 (lockRoomMk m) Heap.empty) = true
  by_cases h0 : m < 32
  · exact allRuns_ok 32 0 lockRoom_runs0 m (by omega) (by omega)
  by_cases h1 : m < 64
  · exact allRuns_ok 32 32 lockRoom_runs1 m (by omega) (by omega)
  by_cases h2 : m < 96
  · exact allRuns_ok 32 64 lockRoom_runs2 m (by omega) (by omega)
  by_cases h3 : m < 128
  · exact allRuns_ok 32 96 lockRoom_runs3 m (by omega) (by omega)
  by_cases h4 : m < 160
  · exact allRuns_ok 32 128 lockRoom_runs4 m (by omega) (by omega)
  by_cases h5 : m < 192
  · exact allRuns_ok 32 160 lockRoom_runs5 m (by omega) (by omega)
  by_cases h6 : m < 224
  · exact allRuns_ok 32 192 lockRoom_runs6 m (by omega) (by omega)
  · exact allRuns_ok 32 224 lockRoom_runs7 m (by omega) (by omega)
end Go.Dx.SYtocdemagjocggaa
