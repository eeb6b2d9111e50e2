/- The contracts of the small functions that all statements of this seat share: ranges and names. Each says what the call returns; the world is as it was. -/
import Derived.Test.YtnfdodgecbibjaaRows
import Derived.Test.YtnfdodgecbibjaaLib
namespace Go.Proofs.Ytnfdodgecbibjaa
open Go.RowKit

set_option maxHeartbeats 400000 in
theorem within_any (n lo hi : Int) (w : World) :
    Calls Try.prog 43 #[.int .i64 n, .int .i64 lo, .int .i64 hi] w fun e w' => e = .returned (.bool (inB n lo hi)) ∧ w = w' := by
  go_enter Try.func43, Try.ntmps43
  go_wp2
  all_goals (go_ret; exact ⟨by first | (simp_all [inB]; done) | (simp [inB]; omega), rfl⟩)

set_option maxHeartbeats 400000 in
theorem l00In_any (n lo hi : Int) (w : World) :
    Calls Try.prog 49 #[.int .i64 n, .int .i64 lo, .int .i64 hi] w fun e w' => e = .returned (.bool (inB n lo hi)) ∧ w = w' := by
  go_enter Try.func49, Try.ntmps49
  go_wp2
  all_goals (go_ret; exact ⟨by first | (simp_all [inB]; done) | (simp [inB]; omega), rfl⟩)

theorem name_long (s : ByteArray) (h : 10 < s.size) : nameB s = false := by
  unfold nameB; simp; intro _ h'; omega
theorem name_none (s : ByteArray) (h : s.size = 0) : nameB s = false := by
  unfold nameB; simp [h]
end Go.Proofs.Ytnfdodgecbibjaa
