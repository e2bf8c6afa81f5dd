/- Line: the document's forms. -/
import Derived.Test.YtobaccjkoiplaaaDoorLf7
set_option linter.unusedVariables false
set_option linter.unusedSimpArgs false
namespace Go.Proofs.YtobaccjkoiplaaaDoor
open Go.RowKit Go.Shelf

set_option maxHeartbeats 16000000 in
set_option maxRecDepth 100000 in
theorem form_any (s : ByteArray) (w : World) :
    Calls Tryd.prog 19 #[.string s] w fun e w' => e = .returned (.string ⟨(rformL s.data.toList).toArray⟩) ∧ w = w' := by
  have hl : s.data.toList = s.toList := (Lib.toList_data s).symm
  rw [hl]
  generalize hL : s.toList = L at *
  clear hl
  by_cases h0 : L = [108, 105, 115, 116]
  · have f0 : (L == [108, 105, 115, 116]) = true := by rw [h0]; decide
    have Hr := Lib.hid (show rformL L = [] by rw [h0]; decide)
    clear h0
    go_enter Tryd.func19, Tryd.ntmps19
    go_wp2_with fail
    go_ret
    exact ⟨by rw [Hr.out]; rfl, rfl⟩
  have f0 : (L == [108, 105, 115, 116]) = false := by simpa using h0
  by_cases h1 : L = [99, 111, 109, 112, 97, 99, 116]
  · have f1 : (L == [99, 111, 109, 112, 97, 99, 116]) = true := by rw [h1]; decide
    have Hr := Lib.hid (show rformL L = [] by rw [h1]; decide)
    clear h1
    go_enter Tryd.func19, Tryd.ntmps19
    go_wp2_with fail
    go_ret
    exact ⟨by rw [Hr.out]; rfl, rfl⟩
  have f1 : (L == [99, 111, 109, 112, 97, 99, 116]) = false := by simpa using h1
  by_cases h2 : L = [111, 112, 101, 110]
  · have f2 : (L == [111, 112, 101, 110]) = true := by rw [h2]; decide
    have Hr := Lib.hid (show rformL L = [] by rw [h2]; decide)
    clear h2
    go_enter Tryd.func19, Tryd.ntmps19
    go_wp2_with fail
    go_ret
    exact ⟨by rw [Hr.out]; rfl, rfl⟩
  have f2 : (L == [111, 112, 101, 110]) = false := by simpa using h2
  by_cases h3 : L = [99, 108, 111, 115, 101]
  · have f3 : (L == [99, 108, 111, 115, 101]) = true := by rw [h3]; decide
    have Hr := Lib.hid (show rformL L = [] by rw [h3]; decide)
    clear h3
    go_enter Tryd.func19, Tryd.ntmps19
    go_wp2_with fail
    go_ret
    exact ⟨by rw [Hr.out]; rfl, rfl⟩
  have f3 : (L == [99, 108, 111, 115, 101]) = false := by simpa using h3
  by_cases h4 : L = [115, 116, 97, 114, 116]
  · have f4 : (L == [115, 116, 97, 114, 116]) = true := by rw [h4]; decide
    have Hr := Lib.hid (show rformL L = [] by rw [h4]; decide)
    clear h4
    go_enter Tryd.func19, Tryd.ntmps19
    go_wp2_with fail
    go_ret
    exact ⟨by rw [Hr.out]; rfl, rfl⟩
  have f4 : (L == [115, 116, 97, 114, 116]) = false := by simpa using h4
  by_cases h5 : L = [115, 97, 118, 101]
  · have f5 : (L == [115, 97, 118, 101]) = true := by rw [h5]; decide
    have Hr := Lib.hid (show rformL L = [] by rw [h5]; decide)
    clear h5
    go_enter Tryd.func19, Tryd.ntmps19
    go_wp2_with fail
    go_ret
    exact ⟨by rw [Hr.out]; rfl, rfl⟩
  have f5 : (L == [115, 97, 118, 101]) = false := by simpa using h5
  by_cases h6 : L = [108, 101, 97, 107]
  · have f6 : (L == [108, 101, 97, 107]) = true := by rw [h6]; decide
    have Hr := Lib.hid (show rformL L = [] by rw [h6]; decide)
    clear h6
    go_enter Tryd.func19, Tryd.ntmps19
    go_wp2_with fail
    go_ret
    exact ⟨by rw [Hr.out]; rfl, rfl⟩
  have f6 : (L == [108, 101, 97, 107]) = false := by simpa using h6
  by_cases h7 : L = [102, 114, 101, 101]
  · have f7 : (L == [102, 114, 101, 101]) = true := by rw [h7]; decide
    have Hr := Lib.hid (show rformL L = [] by rw [h7]; decide)
    clear h7
    go_enter Tryd.func19, Tryd.ntmps19
    go_wp2_with fail
    go_ret
    exact ⟨by rw [Hr.out]; rfl, rfl⟩
  have f7 : (L == [102, 114, 101, 101]) = false := by simpa using h7
  by_cases h8 : L = [115, 116, 97, 116, 101]
  · have f8 : (L == [115, 116, 97, 116, 101]) = true := by rw [h8]; decide
    have Hr := Lib.hid (show rformL L = [] by rw [h8]; decide)
    clear h8
    go_enter Tryd.func19, Tryd.ntmps19
    go_wp2_with fail
    go_ret
    exact ⟨by rw [Hr.out]; rfl, rfl⟩
  have f8 : (L == [115, 116, 97, 116, 101]) = false := by simpa using h8
  by_cases h9 : L = [99, 114, 101, 97, 116, 101]
  · have f9 : (L == [99, 114, 101, 97, 116, 101]) = true := by rw [h9]; decide
    have Hr := Lib.hid (show rformL L = [110] by rw [h9]; decide)
    clear h9
    go_enter Tryd.func19, Tryd.ntmps19
    go_wp2_with fail
    go_ret
    exact ⟨by rw [Hr.out]; rfl, rfl⟩
  have f9 : (L == [99, 114, 101, 97, 116, 101]) = false := by simpa using h9
  by_cases h10 : L = [100, 101, 108, 101, 116, 101]
  · have f10 : (L == [100, 101, 108, 101, 116, 101]) = true := by rw [h10]; decide
    have Hr := Lib.hid (show rformL L = [110] by rw [h10]; decide)
    clear h10
    go_enter Tryd.func19, Tryd.ntmps19
    go_wp2_with fail
    go_ret
    exact ⟨by rw [Hr.out]; rfl, rfl⟩
  have f10 : (L == [100, 101, 108, 101, 116, 101]) = false := by simpa using h10
  by_cases h11 : L = [115, 116, 97, 116, 117, 115]
  · have f11 : (L == [115, 116, 97, 116, 117, 115]) = true := by rw [h11]; decide
    have Hr := Lib.hid (show rformL L = [110] by rw [h11]; decide)
    clear h11
    go_enter Tryd.func19, Tryd.ntmps19
    go_wp2_with fail
    go_ret
    exact ⟨by rw [Hr.out]; rfl, rfl⟩
  have f11 : (L == [115, 116, 97, 116, 117, 115]) = false := by simpa using h11
  by_cases h12 : L = [101, 120, 112, 117, 110, 103, 101]
  · have f12 : (L == [101, 120, 112, 117, 110, 103, 101]) = true := by rw [h12]; decide
    have Hr := Lib.hid (show rformL L = [110] by rw [h12]; decide)
    clear h12
    go_enter Tryd.func19, Tryd.ntmps19
    go_wp2_with fail
    go_ret
    exact ⟨by rw [Hr.out]; rfl, rfl⟩
  have f12 : (L == [101, 120, 112, 117, 110, 103, 101]) = false := by simpa using h12
  by_cases h13 : L = [114, 101, 110, 97, 109, 101]
  · have f13 : (L == [114, 101, 110, 97, 109, 101]) = true := by rw [h13]; decide
    have Hr := Lib.hid (show rformL L = [110, 110] by rw [h13]; decide)
    clear h13
    go_enter Tryd.func19, Tryd.ntmps19
    go_wp2_with fail
    go_ret
    exact ⟨by rw [Hr.out]; rfl, rfl⟩
  have f13 : (L == [114, 101, 110, 97, 109, 101]) = false := by simpa using h13
  by_cases h14 : L = [97, 112, 112, 101, 110, 100]
  · have f14 : (L == [97, 112, 112, 101, 110, 100]) = true := by rw [h14]; decide
    have Hr := Lib.hid (show rformL L = [110, 100, 116] by rw [h14]; decide)
    clear h14
    go_enter Tryd.func19, Tryd.ntmps19
    go_wp2_with fail
    go_ret
    exact ⟨by rw [Hr.out]; rfl, rfl⟩
  have f14 : (L == [97, 112, 112, 101, 110, 100]) = false := by simpa using h14
  by_cases h15 : L = [102, 101, 116, 99, 104]
  · have f15 : (L == [102, 101, 116, 99, 104]) = true := by rw [h15]; decide
    have Hr := Lib.hid (show rformL L = [110, 100] by rw [h15]; decide)
    clear h15
    go_enter Tryd.func19, Tryd.ntmps19
    go_wp2_with fail
    go_ret
    exact ⟨by rw [Hr.out]; rfl, rfl⟩
  have f15 : (L == [102, 101, 116, 99, 104]) = false := by simpa using h15
  by_cases h16 : L = [99, 111, 112, 121]
  · have f16 : (L == [99, 111, 112, 121]) = true := by rw [h16]; decide
    have Hr := Lib.hid (show rformL L = [110, 110, 100] by rw [h16]; decide)
    clear h16
    go_enter Tryd.func19, Tryd.ntmps19
    go_wp2_with fail
    go_ret
    exact ⟨by rw [Hr.out]; rfl, rfl⟩
  have f16 : (L == [99, 111, 112, 121]) = false := by simpa using h16
  by_cases h17 : L = [109, 111, 118, 101]
  · have f17 : (L == [109, 111, 118, 101]) = true := by rw [h17]; decide
    have Hr := Lib.hid (show rformL L = [110, 110, 100] by rw [h17]; decide)
    clear h17
    go_enter Tryd.func19, Tryd.ntmps19
    go_wp2_with fail
    go_ret
    exact ⟨by rw [Hr.out]; rfl, rfl⟩
  have f17 : (L == [109, 111, 118, 101]) = false := by simpa using h17
  by_cases h18 : L = [102, 108, 97, 103]
  · have f18 : (L == [102, 108, 97, 103]) = true := by rw [h18]; decide
    have Hr := Lib.hid (show rformL L = [110, 100, 100, 100] by rw [h18]; decide)
    clear h18
    go_enter Tryd.func19, Tryd.ntmps19
    go_wp2_with fail
    go_ret
    exact ⟨by rw [Hr.out]; rfl, rfl⟩
  have f18 : (L == [102, 108, 97, 103]) = false := by simpa using h18
  by_cases h19 : L = [115, 101, 97, 114, 99, 104]
  · have f19 : (L == [115, 101, 97, 114, 99, 104]) = true := by rw [h19]; decide
    have Hr := Lib.hid (show rformL L = [110, 100, 119] by rw [h19]; decide)
    clear h19
    go_enter Tryd.func19, Tryd.ntmps19
    go_wp2_with fail
    go_ret
    exact ⟨by rw [Hr.out]; rfl, rfl⟩
  have f19 : (L == [115, 101, 97, 114, 99, 104]) = false := by simpa using h19
  by_cases h20 : L = [97, 114, 109]
  · have f20 : (L == [97, 114, 109]) = true := by rw [h20]; decide
    have Hr := Lib.hid (show rformL L = [100, 100] by rw [h20]; decide)
    clear h20
    go_enter Tryd.func19, Tryd.ntmps19
    go_wp2_with fail
    go_ret
    exact ⟨by rw [Hr.out]; rfl, rfl⟩
  have f20 : (L == [97, 114, 109]) = false := by simpa using h20
  by_cases h21 : L = [115, 119, 97, 112]
  · have f21 : (L == [115, 119, 97, 112]) = true := by rw [h21]; decide
    have Hr := Lib.hid (show rformL L = [100, 100] by rw [h21]; decide)
    clear h21
    go_enter Tryd.func19, Tryd.ntmps19
    go_wp2_with fail
    go_ret
    exact ⟨by rw [Hr.out]; rfl, rfl⟩
  have f21 : (L == [115, 119, 97, 112]) = false := by simpa using h21
  by_cases h22 : L = [98, 97, 99, 107]
  · have f22 : (L == [98, 97, 99, 107]) = true := by rw [h22]; decide
    have Hr := Lib.hid (show rformL L = [100] by rw [h22]; decide)
    clear h22
    go_enter Tryd.func19, Tryd.ntmps19
    go_wp2_with fail
    go_ret
    exact ⟨by rw [Hr.out]; rfl, rfl⟩
  have f22 : (L == [98, 97, 99, 107]) = false := by simpa using h22
  by_cases h23 : L = [111, 118, 101, 114]
  · have f23 : (L == [111, 118, 101, 114]) = true := by rw [h23]; decide
    have Hr := Lib.hid (show rformL L = [100, 116] by rw [h23]; decide)
    clear h23
    go_enter Tryd.func19, Tryd.ntmps19
    go_wp2_with fail
    go_ret
    exact ⟨by rw [Hr.out]; rfl, rfl⟩
  have f23 : (L == [111, 118, 101, 114]) = false := by simpa using h23
  by_cases h24 : L = [114, 101, 97, 108]
  · have f24 : (L == [114, 101, 97, 108]) = true := by rw [h24]; decide
    have Hr := Lib.hid (show rformL L = [100, 100, 100, 116] by rw [h24]; decide)
    clear h24
    go_enter Tryd.func19, Tryd.ntmps19
    go_wp2_with fail
    go_ret
    exact ⟨by rw [Hr.out]; rfl, rfl⟩
  have f24 : (L == [114, 101, 97, 108]) = false := by simpa using h24
  by_cases h25 : L = [105, 100, 101, 97, 108]
  · have f25 : (L == [105, 100, 101, 97, 108]) = true := by rw [h25]; decide
    have Hr := Lib.hid (show rformL L = [100, 100, 100, 116] by rw [h25]; decide)
    clear h25
    go_enter Tryd.func19, Tryd.ntmps19
    go_wp2_with fail
    go_ret
    exact ⟨by rw [Hr.out]; rfl, rfl⟩
  have f25 : (L == [105, 100, 101, 97, 108]) = false := by simpa using h25
  have Hr := Lib.hid (show rformL L = [45] by
    refine rform_none ?_
    unfold findL
    rw [List.find?_eq_none]
    intro g hg e
    have e1 : g.word = L := by simpa using e
    have h3 : ∀ g ∈ formsL, g.word = [108, 105, 115, 116] ∨ g.word = [99, 111, 109, 112, 97, 99, 116] ∨ g.word = [111, 112, 101, 110] ∨ g.word = [99, 108, 111, 115, 101] ∨ g.word = [115, 116, 97, 114, 116] ∨ g.word = [115, 97, 118, 101] ∨ g.word = [108, 101, 97, 107] ∨ g.word = [102, 114, 101, 101] ∨ g.word = [115, 116, 97, 116, 101] ∨ g.word = [99, 114, 101, 97, 116, 101] ∨ g.word = [100, 101, 108, 101, 116, 101] ∨ g.word = [115, 116, 97, 116, 117, 115] ∨ g.word = [101, 120, 112, 117, 110, 103, 101] ∨ g.word = [114, 101, 110, 97, 109, 101] ∨ g.word = [97, 112, 112, 101, 110, 100] ∨ g.word = [102, 101, 116, 99, 104] ∨ g.word = [99, 111, 112, 121] ∨ g.word = [109, 111, 118, 101] ∨ g.word = [102, 108, 97, 103] ∨ g.word = [115, 101, 97, 114, 99, 104] ∨ g.word = [97, 114, 109] ∨ g.word = [115, 119, 97, 112] ∨ g.word = [98, 97, 99, 107] ∨ g.word = [111, 118, 101, 114] ∨ g.word = [114, 101, 97, 108] ∨ g.word = [105, 100, 101, 97, 108] := by decide
    have := h3 g hg
    rw [e1] at this
    rcases this with h | h | h | h | h | h | h | h | h | h | h | h | h | h | h | h | h | h | h | h | h | h | h | h | h | h <;> contradiction)
  clear h0 h1 h2 h3 h4 h5 h6 h7 h8 h9 h10 h11 h12 h13 h14 h15 h16 h17 h18 h19 h20 h21 h22 h23 h24 h25
  go_enter Tryd.func19, Tryd.ntmps19
  go_wp2_with fail
  go_ret
  exact ⟨by rw [Hr.out]; rfl, rfl⟩
end Go.Proofs.YtobaccjkoiplaaaDoor
