/- For every int n and every uint64 w: pack.Zig and pack.Unzig answer as the document's Zig and Unzig do, and each undoes the other. No condition. -/
import Derived.Test.YtjdnlibgfjlakaaF3
import Derived.Test.YtjdnlibgfjlakaaB
namespace Go.Proofs.Ytjdnlibgfjlakaa.Pure
open Go.RowKit Go.Proofs.Ytjdnlibgfjlakaa.P Go.Proofs.YtjdnlibgfjlakaaW.PrintWords Go.Proofs.YtjdnlibgfjlakaaW.PrintLast Go.Proofs.Ytjdnlibgfjlakaa.B
/-- Zig, as a number. -/
def zg (n : Int) : Int := if 0 ≤ n then 2 * n else -2 * n - 1
def uz (w : Int) : Int := if w % 2 = 0 then w / 2 else -(w / 2) - 1
theorem zig_code (n : Int) (h0 : -9223372036854775808 ≤ n) (h1 : n ≤ 9223372036854775807) : pack_Zig.f n = some (zg n) := by
  unfold pack_Zig.f zg
  congr 1
  by_cases h : 0 ≤ n
  · rw [if_pos h, show n / 9223372036854775808 = 0 from by omega, show IntKind.u64.wrap 0 = 0 from rfl, xor_zero]
    · simp only [wrap_u64]; omega
    · simp only [wrap_u64]; omega
  · rw [if_neg h, show n / 9223372036854775808 = -1 from by omega, show IntKind.u64.wrap (-1) = 18446744073709551615 from rfl, xor_ones_u64]
    all_goals simp only [wrap_u64]; omega
theorem zig_ref (n : Int) (h0 : -9223372036854775808 ≤ n) (h1 : n ≤ 9223372036854775807) : tallymanref08_Zig.f n = some (zg n) := by
  unfold tallymanref08_Zig.f zg
  by_cases h : 0 ≤ n
  · rw [if_pos h, if_pos h]; congr 1; simp only [wrap_u64]; omega
  · rw [if_neg h, if_neg h]; congr 1; simp only [wrap_u64]; unfold wrap64; omega
theorem unzig_code (w : Int) (h0 : 0 ≤ w) (h1 : w ≤ 18446744073709551615) : pack_Unzig.f w = some (uz w) := by
  unfold pack_Unzig.f uz
  rw [and_one_u64 w h0 h1]
  congr 1
  rw [show wrap64 (w / 2) = w / 2 from by unfold wrap64; omega]
  by_cases h : w % 2 = 0
  · rw [if_pos h, h, show wrap64 (-(wrap64 0)) = 0 from by decide +kernel, xor_zero]
    rw [wrap_i64]; unfold wrap64; omega
  · rw [if_neg h, show w % 2 = 1 from by omega, show wrap64 (-(wrap64 1)) = -1 from by decide +kernel, xor_ones_i64]
    unfold wrap64; omega
theorem unzig_ref (w : Int) (h0 : 0 ≤ w) (h1 : w ≤ 18446744073709551615) : tallymanref08_Unzig.f w = some (uz w) := by
  unfold tallymanref08_Unzig.f uz
  rw [Int.tmod_eq_emod_of_nonneg h0, Int.tdiv_eq_ediv_of_nonneg h0]
  by_cases h : w % 2 = 0
  · rw [if_pos h, if_pos h]; congr 1; rw [wrap_u64]; unfold wrap64; omega
  · rw [if_neg h, if_neg h]; congr 1; rw [wrap_u64]; unfold wrap64; omega
theorem PackZigs : tallymanlaw08_PackZigs.Pure := by
  intro n w hn hw
  obtain ⟨n0, n1⟩ := wf_i64 hn
  obtain ⟨w0, w1⟩ := wf_u64 hw
  have b1 : 0 ≤ zg n ∧ zg n ≤ 18446744073709551615 := by unfold zg; split <;> omega
  have b2 : -9223372036854775808 ≤ uz w ∧ uz w ≤ 9223372036854775807 := by unfold uz; split <;> omega
  have e1 : uz (zg n) = n := by unfold uz zg; split <;> split <;> omega
  have e2 : zg (uz w) = w := by unfold uz zg; split <;> split <;> omega
  unfold tallymanlaw08_PackZigs.f
  rw [zig_code n n0 n1, zig_ref n n0 n1, unzig_code w w0 w1, unzig_ref w w0 w1]
  simp only [Option.bind_some, if_true]
  rw [unzig_code _ b1.1 b1.2, e1]
  simp only [Option.bind_some, if_true]
  rw [zig_code _ b2.1 b2.2, e2]
  simp only [Option.bind_some, if_true]
  rfl
end Go.Proofs.Ytjdnlibgfjlakaa.Pure
