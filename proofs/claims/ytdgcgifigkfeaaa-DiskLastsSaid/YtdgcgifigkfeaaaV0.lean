/- The chapter's example, by itself. -/
import Derived.Test.YtdgcgifigkfeaaaX
namespace Go.Proofs.Ytdgcgifigkfeaaa
open Go Go.Wk Go.Wl Classical
def x1 : Dk := ((Dk.new 3).write 1 (ofs 120 120)).2
theorem x1_ok : x1.Ok := write_Ok (new_Ok (by decide) (by decide)) _ _
theorem w1_eq : ((Dk.new 3).write 1 (ofs 120 120)).1 = 0 := by kernel_rfl
theorem d1_eq : x1.dirty = [1] := by
  have e : x1.fresh.map (·.1) = [1] := by kernel_rfl
  rw [Dk.dirty, e]; simp [srt]
theorem r1_eq : (x1.crash 1 2 []).read 1 = ([120, 120] ++ List.replicate 254 0, 0) := by kernel_rfl
theorem r2_eq : (x1.crash 0 0 [1]).read 1 = (ofs 120 120, 0) := by kernel_rfl
theorem f1_eq : (x1.limit 0).flush.1 = 9 := by kernel_rfl
theorem f2_eq : (x1.limit 0).flush.2.off = true := by kernel_rfl
end Go.Proofs.Ytdgcgifigkfeaaa
