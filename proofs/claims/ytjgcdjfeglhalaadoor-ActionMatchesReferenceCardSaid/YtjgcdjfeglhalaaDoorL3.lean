/- The law 'ActionMatchesReference': the walk. -/
import Derived.Test.YtjgcdjfeglhalaaDoorAwake
namespace Go.Proofs.YtjgcdjfeglhalaaDoor
open Go.RowKit Go.Proofs.YtjgcdjfeglhalaaDoorW.PrintWords
set_option maxHeartbeats 1000000 in
theorem matches_any (t u n : Int) (w : World) (h0 : 0 ≤ t) (h1 : t ≤ 255) (h2 : 0 ≤ u) (h3 : u ≤ 65535) (hg : GTab w) : Calls Tryd.prog 3 #[.int .u8 t, .int .u16 u, .int .i64 n] w (IsPost (.bool true) w) := by
  have hG := hid hg
  clear hg
  go_enter Tryd.func3, Tryd.ntmps3
  go_wp2_with fail
  refine (awake_any _ hG.out).mono ?_
  rintro e w1 ⟨rfl, hb⟩
  have B1 := hid hb
  clear hb
  go_wp2_with fail
  refine (chunk_any t _ h0 h1 (hG.out.below B1.out).1).mono ?_
  rintro e w2 ⟨rfl, hb⟩
  have B2 := hid (cthen B1.out hb)
  clear hb
  go_wp2_with fail
  refine (param_any u _ h2 h3).mono ?_
  rintro e w3 ⟨rfl, hb⟩
  have B3 := hid (cthen B2.out hb)
  clear hb
  go_wp2_with fail
  refine (rchunk_any t _ h0 h1).mono ?_
  rintro e w4 ⟨rfl, hb⟩
  have B4 := hid (cthen B3.out hb)
  clear hb
  go_wp2_with fail
  refine (rparam_any u _ h2 h3).mono ?_
  rintro e w5 ⟨rfl, hb⟩
  have B5 := hid (cthen B4.out hb)
  clear hb
  go_wp2_with fail
  refine (name_any n _ (hG.out.below B5.out).2).mono ?_
  rintro e w6 ⟨rfl, hb⟩
  have B6 := hid (cthen B5.out hb)
  clear hb
  go_wp2_with fail
  refine (rname_any n _).mono ?_
  rintro e w7 ⟨rfl, hb⟩
  have B7 := hid (cthen B6.out hb)
  clear hb
  go_wp2_with fail
  refine (stops_any n _).mono ?_
  rintro e w8 ⟨rfl, hb⟩
  have B8 := hid (cthen B7.out hb)
  clear hb
  cases hn0 : (n == 0)
  all_goals
    go_wp2_with fail
    refine (reports_any n _).mono ?_
    rintro e w9 ⟨rfl, hb⟩
    have B9 := hid (cthen B8.out hb)
    clear hb
    cases hn1 : (n == 1)
    all_goals
      go_wp2_with fail
      go_ret
      exact ⟨by first | rfl | (simp; done), B9.out⟩
end Go.Proofs.YtjgcdjfeglhalaaDoor
