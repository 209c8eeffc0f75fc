-- By a program of ours (wip/tools/myprint.sh) out of the translation.
import Derived.Test.YtchkgljhklfhnaaPx0
import Derived.Test.YtchkgljhklfhnaaPx3
namespace Go.Proofs.Ytchkgljhklfhnaa.Print
open Go.RowKit Go.Proofs.YtchkgljhklfhnaaW.PrintWords Go.Proofs.YtchkgljhklfhnaaW.PrintLast Go.Proofs.YtchkgljhklfhnaaW.PrintMore
attribute [local go_sem] max2_int min2_int max_two min_two max_three min_three max_four min_four   -- for this text's walks alone
set_option linter.unusedVariables false
set_option linter.unusedSimpArgs false

/-! ### cruciblelaw0_errors3: function 17 -/
def cruciblelaw0_errors3.f  : Option (Bool) := (cruciblelaw0_Num.f 1800).bind fun t129 => (if t129 = 1800 then ((cruciblelaw0_Num.f 1801).bind fun t130 => (if t130 = 1801 then ((cruciblelaw0_Num.f 1900).bind fun t131 => (if t131 = 1900 then ((cruciblelaw0_Num.f 1901).bind fun t132 => (if t132 = 1901 then ((cruciblelaw0_Num.f 2000).bind fun t133 => (if t133 = 2000 then ((cruciblelaw0_Num.f 2001).bind fun t134 => (if t134 = 2001 then ((cruciblelaw0_Num.f 2100).bind fun t135 => (if t135 = 2100 then ((cruciblelaw0_Num.f 2200).bind fun t136 => (if t136 = 2200 then ((cruciblelaw0_Num.f 2300).bind fun t137 => (if t137 = 2300 then ((cruciblelaw0_Num.f 2301).bind fun t138 => (if t138 = 2301 then ((cruciblelaw0_Num.f 2400).bind fun t139 => (if t139 = 2400 then ((cruciblelaw0_Num.f 2500).bind fun t140 => (some (t140 == 2500))) else (some false))) else (some false))) else (some false))) else (some false))) else (some false))) else (some false))) else (some false))) else (some false))) else (some false))) else (some false))) else (some false))
set_option maxHeartbeats 8000000 in
set_option maxRecDepth 100000 in
theorem cruciblelaw0_errors3.calls  (r : Bool) (w : World) (h : cruciblelaw0_errors3.f  = some r) :
    Calls Try.prog 17 #[] w fun e w' => e = .returned (.bool r) ∧ Drawn0 w w' := by
  have H : ((cruciblelaw0_Num.f 1800).bind fun t129 => (if t129 = 1800 then ((cruciblelaw0_Num.f 1801).bind fun t130 => (if t130 = 1801 then ((cruciblelaw0_Num.f 1900).bind fun t131 => (if t131 = 1900 then ((cruciblelaw0_Num.f 1901).bind fun t132 => (if t132 = 1901 then ((cruciblelaw0_Num.f 2000).bind fun t133 => (if t133 = 2000 then ((cruciblelaw0_Num.f 2001).bind fun t134 => (if t134 = 2001 then ((cruciblelaw0_Num.f 2100).bind fun t135 => (if t135 = 2100 then ((cruciblelaw0_Num.f 2200).bind fun t136 => (if t136 = 2200 then ((cruciblelaw0_Num.f 2300).bind fun t137 => (if t137 = 2300 then ((cruciblelaw0_Num.f 2301).bind fun t138 => (if t138 = 2301 then ((cruciblelaw0_Num.f 2400).bind fun t139 => (if t139 = 2400 then ((cruciblelaw0_Num.f 2500).bind fun t140 => (some (t140 == 2500))) else (some false))) else (some false))) else (some false))) else (some false))) else (some false))) else (some false))) else (some false))) else (some false))) else (some false))) else (some false))) else (some false))) = some r := h
  clear h
  replace H := Option.bind_eq_some_iff.mp H
  obtain ⟨t129, A10, H⟩ := H
  replace H : (if t129 = 1800 then ((cruciblelaw0_Num.f 1801).bind fun t130 => (if t130 = 1801 then ((cruciblelaw0_Num.f 1900).bind fun t131 => (if t131 = 1900 then ((cruciblelaw0_Num.f 1901).bind fun t132 => (if t132 = 1901 then ((cruciblelaw0_Num.f 2000).bind fun t133 => (if t133 = 2000 then ((cruciblelaw0_Num.f 2001).bind fun t134 => (if t134 = 2001 then ((cruciblelaw0_Num.f 2100).bind fun t135 => (if t135 = 2100 then ((cruciblelaw0_Num.f 2200).bind fun t136 => (if t136 = 2200 then ((cruciblelaw0_Num.f 2300).bind fun t137 => (if t137 = 2300 then ((cruciblelaw0_Num.f 2301).bind fun t138 => (if t138 = 2301 then ((cruciblelaw0_Num.f 2400).bind fun t139 => (if t139 = 2400 then ((cruciblelaw0_Num.f 2500).bind fun t140 => (some (t140 == 2500))) else (some false))) else (some false))) else (some false))) else (some false))) else (some false))) else (some false))) else (some false))) else (some false))) else (some false))) else (some false))) else (some false)) = some r := H
  have A1 := Aside0.mk A10
  clear A10
  by_cases c2 : t129 = 1800
  · rw [if_pos c2] at H
    have c2b0 : (t129 == 1800) = true := beq_iff_eq.mpr c2
    have c2b1 : (t129 != 1800) = false := bne_eq_false_iff_eq.mpr c2
    clear c2
    replace H := Option.bind_eq_some_iff.mp H
    obtain ⟨t130, A30, H⟩ := H
    replace H : (if t130 = 1801 then ((cruciblelaw0_Num.f 1900).bind fun t131 => (if t131 = 1900 then ((cruciblelaw0_Num.f 1901).bind fun t132 => (if t132 = 1901 then ((cruciblelaw0_Num.f 2000).bind fun t133 => (if t133 = 2000 then ((cruciblelaw0_Num.f 2001).bind fun t134 => (if t134 = 2001 then ((cruciblelaw0_Num.f 2100).bind fun t135 => (if t135 = 2100 then ((cruciblelaw0_Num.f 2200).bind fun t136 => (if t136 = 2200 then ((cruciblelaw0_Num.f 2300).bind fun t137 => (if t137 = 2300 then ((cruciblelaw0_Num.f 2301).bind fun t138 => (if t138 = 2301 then ((cruciblelaw0_Num.f 2400).bind fun t139 => (if t139 = 2400 then ((cruciblelaw0_Num.f 2500).bind fun t140 => (some (t140 == 2500))) else (some false))) else (some false))) else (some false))) else (some false))) else (some false))) else (some false))) else (some false))) else (some false))) else (some false))) else (some false)) = some r := H
    have A3 := Aside0.mk A30
    clear A30
    by_cases c4 : t130 = 1801
    · rw [if_pos c4] at H
      have c4b0 : (t130 == 1801) = true := beq_iff_eq.mpr c4
      have c4b1 : (t130 != 1801) = false := bne_eq_false_iff_eq.mpr c4
      clear c4
      replace H := Option.bind_eq_some_iff.mp H
      obtain ⟨t131, A50, H⟩ := H
      replace H : (if t131 = 1900 then ((cruciblelaw0_Num.f 1901).bind fun t132 => (if t132 = 1901 then ((cruciblelaw0_Num.f 2000).bind fun t133 => (if t133 = 2000 then ((cruciblelaw0_Num.f 2001).bind fun t134 => (if t134 = 2001 then ((cruciblelaw0_Num.f 2100).bind fun t135 => (if t135 = 2100 then ((cruciblelaw0_Num.f 2200).bind fun t136 => (if t136 = 2200 then ((cruciblelaw0_Num.f 2300).bind fun t137 => (if t137 = 2300 then ((cruciblelaw0_Num.f 2301).bind fun t138 => (if t138 = 2301 then ((cruciblelaw0_Num.f 2400).bind fun t139 => (if t139 = 2400 then ((cruciblelaw0_Num.f 2500).bind fun t140 => (some (t140 == 2500))) else (some false))) else (some false))) else (some false))) else (some false))) else (some false))) else (some false))) else (some false))) else (some false))) else (some false)) = some r := H
      have A5 := Aside0.mk A50
      clear A50
      by_cases c6 : t131 = 1900
      · rw [if_pos c6] at H
        have c6b0 : (t131 == 1900) = true := beq_iff_eq.mpr c6
        have c6b1 : (t131 != 1900) = false := bne_eq_false_iff_eq.mpr c6
        clear c6
        replace H := Option.bind_eq_some_iff.mp H
        obtain ⟨t132, A70, H⟩ := H
        replace H : (if t132 = 1901 then ((cruciblelaw0_Num.f 2000).bind fun t133 => (if t133 = 2000 then ((cruciblelaw0_Num.f 2001).bind fun t134 => (if t134 = 2001 then ((cruciblelaw0_Num.f 2100).bind fun t135 => (if t135 = 2100 then ((cruciblelaw0_Num.f 2200).bind fun t136 => (if t136 = 2200 then ((cruciblelaw0_Num.f 2300).bind fun t137 => (if t137 = 2300 then ((cruciblelaw0_Num.f 2301).bind fun t138 => (if t138 = 2301 then ((cruciblelaw0_Num.f 2400).bind fun t139 => (if t139 = 2400 then ((cruciblelaw0_Num.f 2500).bind fun t140 => (some (t140 == 2500))) else (some false))) else (some false))) else (some false))) else (some false))) else (some false))) else (some false))) else (some false))) else (some false)) = some r := H
        have A7 := Aside0.mk A70
        clear A70
        by_cases c8 : t132 = 1901
        · rw [if_pos c8] at H
          have c8b0 : (t132 == 1901) = true := beq_iff_eq.mpr c8
          have c8b1 : (t132 != 1901) = false := bne_eq_false_iff_eq.mpr c8
          clear c8
          replace H := Option.bind_eq_some_iff.mp H
          obtain ⟨t133, A90, H⟩ := H
          replace H : (if t133 = 2000 then ((cruciblelaw0_Num.f 2001).bind fun t134 => (if t134 = 2001 then ((cruciblelaw0_Num.f 2100).bind fun t135 => (if t135 = 2100 then ((cruciblelaw0_Num.f 2200).bind fun t136 => (if t136 = 2200 then ((cruciblelaw0_Num.f 2300).bind fun t137 => (if t137 = 2300 then ((cruciblelaw0_Num.f 2301).bind fun t138 => (if t138 = 2301 then ((cruciblelaw0_Num.f 2400).bind fun t139 => (if t139 = 2400 then ((cruciblelaw0_Num.f 2500).bind fun t140 => (some (t140 == 2500))) else (some false))) else (some false))) else (some false))) else (some false))) else (some false))) else (some false))) else (some false)) = some r := H
          have A9 := Aside0.mk A90
          clear A90
          by_cases c10 : t133 = 2000
          · rw [if_pos c10] at H
            have c10b0 : (t133 == 2000) = true := beq_iff_eq.mpr c10
            have c10b1 : (t133 != 2000) = false := bne_eq_false_iff_eq.mpr c10
            clear c10
            replace H := Option.bind_eq_some_iff.mp H
            obtain ⟨t134, A110, H⟩ := H
            replace H : (if t134 = 2001 then ((cruciblelaw0_Num.f 2100).bind fun t135 => (if t135 = 2100 then ((cruciblelaw0_Num.f 2200).bind fun t136 => (if t136 = 2200 then ((cruciblelaw0_Num.f 2300).bind fun t137 => (if t137 = 2300 then ((cruciblelaw0_Num.f 2301).bind fun t138 => (if t138 = 2301 then ((cruciblelaw0_Num.f 2400).bind fun t139 => (if t139 = 2400 then ((cruciblelaw0_Num.f 2500).bind fun t140 => (some (t140 == 2500))) else (some false))) else (some false))) else (some false))) else (some false))) else (some false))) else (some false)) = some r := H
            have A11 := Aside0.mk A110
            clear A110
            by_cases c12 : t134 = 2001
            · rw [if_pos c12] at H
              have c12b0 : (t134 == 2001) = true := beq_iff_eq.mpr c12
              have c12b1 : (t134 != 2001) = false := bne_eq_false_iff_eq.mpr c12
              clear c12
              replace H := Option.bind_eq_some_iff.mp H
              obtain ⟨t135, A130, H⟩ := H
              replace H : (if t135 = 2100 then ((cruciblelaw0_Num.f 2200).bind fun t136 => (if t136 = 2200 then ((cruciblelaw0_Num.f 2300).bind fun t137 => (if t137 = 2300 then ((cruciblelaw0_Num.f 2301).bind fun t138 => (if t138 = 2301 then ((cruciblelaw0_Num.f 2400).bind fun t139 => (if t139 = 2400 then ((cruciblelaw0_Num.f 2500).bind fun t140 => (some (t140 == 2500))) else (some false))) else (some false))) else (some false))) else (some false))) else (some false)) = some r := H
              have A13 := Aside0.mk A130
              clear A130
              by_cases c14 : t135 = 2100
              · rw [if_pos c14] at H
                have c14b0 : (t135 == 2100) = true := beq_iff_eq.mpr c14
                have c14b1 : (t135 != 2100) = false := bne_eq_false_iff_eq.mpr c14
                clear c14
                replace H := Option.bind_eq_some_iff.mp H
                obtain ⟨t136, A150, H⟩ := H
                replace H : (if t136 = 2200 then ((cruciblelaw0_Num.f 2300).bind fun t137 => (if t137 = 2300 then ((cruciblelaw0_Num.f 2301).bind fun t138 => (if t138 = 2301 then ((cruciblelaw0_Num.f 2400).bind fun t139 => (if t139 = 2400 then ((cruciblelaw0_Num.f 2500).bind fun t140 => (some (t140 == 2500))) else (some false))) else (some false))) else (some false))) else (some false)) = some r := H
                have A15 := Aside0.mk A150
                clear A150
                by_cases c16 : t136 = 2200
                · rw [if_pos c16] at H
                  have c16b0 : (t136 == 2200) = true := beq_iff_eq.mpr c16
                  have c16b1 : (t136 != 2200) = false := bne_eq_false_iff_eq.mpr c16
                  clear c16
                  replace H := Option.bind_eq_some_iff.mp H
                  obtain ⟨t137, A170, H⟩ := H
                  replace H : (if t137 = 2300 then ((cruciblelaw0_Num.f 2301).bind fun t138 => (if t138 = 2301 then ((cruciblelaw0_Num.f 2400).bind fun t139 => (if t139 = 2400 then ((cruciblelaw0_Num.f 2500).bind fun t140 => (some (t140 == 2500))) else (some false))) else (some false))) else (some false)) = some r := H
                  have A17 := Aside0.mk A170
                  clear A170
                  by_cases c18 : t137 = 2300
                  · rw [if_pos c18] at H
                    have c18b0 : (t137 == 2300) = true := beq_iff_eq.mpr c18
                    have c18b1 : (t137 != 2300) = false := bne_eq_false_iff_eq.mpr c18
                    clear c18
                    replace H := Option.bind_eq_some_iff.mp H
                    obtain ⟨t138, A190, H⟩ := H
                    replace H : (if t138 = 2301 then ((cruciblelaw0_Num.f 2400).bind fun t139 => (if t139 = 2400 then ((cruciblelaw0_Num.f 2500).bind fun t140 => (some (t140 == 2500))) else (some false))) else (some false)) = some r := H
                    have A19 := Aside0.mk A190
                    clear A190
                    by_cases c20 : t138 = 2301
                    · rw [if_pos c20] at H
                      have c20b0 : (t138 == 2301) = true := beq_iff_eq.mpr c20
                      have c20b1 : (t138 != 2301) = false := bne_eq_false_iff_eq.mpr c20
                      clear c20
                      replace H := Option.bind_eq_some_iff.mp H
                      obtain ⟨t139, A210, H⟩ := H
                      replace H : (if t139 = 2400 then ((cruciblelaw0_Num.f 2500).bind fun t140 => (some (t140 == 2500))) else (some false)) = some r := H
                      have A21 := Aside0.mk A210
                      clear A210
                      by_cases c22 : t139 = 2400
                      · rw [if_pos c22] at H
                        have c22b0 : (t139 == 2400) = true := beq_iff_eq.mpr c22
                        have c22b1 : (t139 != 2400) = false := bne_eq_false_iff_eq.mpr c22
                        clear c22
                        replace H := Option.bind_eq_some_iff.mp H
                        obtain ⟨t140, A230, H⟩ := H
                        replace H : (some (t140 == 2500)) = some r := H
                        have A23 := Aside0.mk A230
                        clear A230
                        obtain rfl := Option.some.inj H
                        go_enter Try.func17, Try.ntmps17
                        go_wp2_with (first | ((with_reducible refine gate_callee (f := 20) rfl ?_); refine goesL_ (some 1) rfl rfl Try.func20 (by kernel_rfl) rfl #[.int .i64 1800] rfl (by (try simp only [List.map_toArray, List.map_cons, List.map_nil]); first | done | rfl | (simp only [List.length_drop, List.length_take]; rfl)) ?_; (with_reducible refine (cruciblelaw0_Num.calls 1800 t129 _ A1.out).mono ?_); rintro e w' ⟨rfl, ⟨nd, rfl⟩⟩; refine ⟨_, rfl, ?_⟩) | (go_at_call 20; (with_reducible refine (cruciblelaw0_Num.calls 1801 t130 _ A3.out).mono ?_); rintro e w' ⟨rfl, ⟨nd, rfl⟩⟩) | (go_at_call 20; (with_reducible refine (cruciblelaw0_Num.calls 1900 t131 _ A5.out).mono ?_); rintro e w' ⟨rfl, ⟨nd, rfl⟩⟩) | (go_at_call 20; (with_reducible refine (cruciblelaw0_Num.calls 1901 t132 _ A7.out).mono ?_); rintro e w' ⟨rfl, ⟨nd, rfl⟩⟩) | (go_at_call 20; (with_reducible refine (cruciblelaw0_Num.calls 2000 t133 _ A9.out).mono ?_); rintro e w' ⟨rfl, ⟨nd, rfl⟩⟩) | (go_at_call 20; (with_reducible refine (cruciblelaw0_Num.calls 2001 t134 _ A11.out).mono ?_); rintro e w' ⟨rfl, ⟨nd, rfl⟩⟩) | (go_at_call 20; (with_reducible refine (cruciblelaw0_Num.calls 2100 t135 _ A13.out).mono ?_); rintro e w' ⟨rfl, ⟨nd, rfl⟩⟩) | (go_at_call 20; (with_reducible refine (cruciblelaw0_Num.calls 2200 t136 _ A15.out).mono ?_); rintro e w' ⟨rfl, ⟨nd, rfl⟩⟩) | (go_at_call 20; (with_reducible refine (cruciblelaw0_Num.calls 2300 t137 _ A17.out).mono ?_); rintro e w' ⟨rfl, ⟨nd, rfl⟩⟩) | (go_at_call 20; (with_reducible refine (cruciblelaw0_Num.calls 2301 t138 _ A19.out).mono ?_); rintro e w' ⟨rfl, ⟨nd, rfl⟩⟩) | (go_at_call 20; (with_reducible refine (cruciblelaw0_Num.calls 2400 t139 _ A21.out).mono ?_); rintro e w' ⟨rfl, ⟨nd, rfl⟩⟩) | (go_at_call 20; (with_reducible refine (cruciblelaw0_Num.calls 2500 t140 _ A23.out).mono ?_); rintro e w' ⟨rfl, ⟨nd, rfl⟩⟩))
                        go_ret
                        exact ⟨by first | rfl | (simp; done) | (simp [*]; done), by repeat (first | exact Drawn0.refl _ | apply Drawn0.step)⟩
                      · rw [if_neg c22] at H
                        have c22b0 : (t139 == 2400) = false := beq_eq_false_iff_ne.mpr c22
                        have c22b1 : (t139 != 2400) = true := bne_iff_ne.mpr c22
                        obtain rfl := Option.some.inj H
                        go_enter Try.func17, Try.ntmps17
                        go_wp2_with (first | ((with_reducible refine gate_callee (f := 20) rfl ?_); refine goesL_ (some 1) rfl rfl Try.func20 (by kernel_rfl) rfl #[.int .i64 1800] rfl (by (try simp only [List.map_toArray, List.map_cons, List.map_nil]); first | done | rfl | (simp only [List.length_drop, List.length_take]; rfl)) ?_; (with_reducible refine (cruciblelaw0_Num.calls 1800 t129 _ A1.out).mono ?_); rintro e w' ⟨rfl, ⟨nd, rfl⟩⟩; refine ⟨_, rfl, ?_⟩) | (go_at_call 20; (with_reducible refine (cruciblelaw0_Num.calls 1801 t130 _ A3.out).mono ?_); rintro e w' ⟨rfl, ⟨nd, rfl⟩⟩) | (go_at_call 20; (with_reducible refine (cruciblelaw0_Num.calls 1900 t131 _ A5.out).mono ?_); rintro e w' ⟨rfl, ⟨nd, rfl⟩⟩) | (go_at_call 20; (with_reducible refine (cruciblelaw0_Num.calls 1901 t132 _ A7.out).mono ?_); rintro e w' ⟨rfl, ⟨nd, rfl⟩⟩) | (go_at_call 20; (with_reducible refine (cruciblelaw0_Num.calls 2000 t133 _ A9.out).mono ?_); rintro e w' ⟨rfl, ⟨nd, rfl⟩⟩) | (go_at_call 20; (with_reducible refine (cruciblelaw0_Num.calls 2001 t134 _ A11.out).mono ?_); rintro e w' ⟨rfl, ⟨nd, rfl⟩⟩) | (go_at_call 20; (with_reducible refine (cruciblelaw0_Num.calls 2100 t135 _ A13.out).mono ?_); rintro e w' ⟨rfl, ⟨nd, rfl⟩⟩) | (go_at_call 20; (with_reducible refine (cruciblelaw0_Num.calls 2200 t136 _ A15.out).mono ?_); rintro e w' ⟨rfl, ⟨nd, rfl⟩⟩) | (go_at_call 20; (with_reducible refine (cruciblelaw0_Num.calls 2300 t137 _ A17.out).mono ?_); rintro e w' ⟨rfl, ⟨nd, rfl⟩⟩) | (go_at_call 20; (with_reducible refine (cruciblelaw0_Num.calls 2301 t138 _ A19.out).mono ?_); rintro e w' ⟨rfl, ⟨nd, rfl⟩⟩) | (go_at_call 20; (with_reducible refine (cruciblelaw0_Num.calls 2400 t139 _ A21.out).mono ?_); rintro e w' ⟨rfl, ⟨nd, rfl⟩⟩))
                        go_ret
                        exact ⟨by first | rfl | (simp; done) | (simp [*]; done), by repeat (first | exact Drawn0.refl _ | apply Drawn0.step)⟩
                    · rw [if_neg c20] at H
                      have c20b0 : (t138 == 2301) = false := beq_eq_false_iff_ne.mpr c20
                      have c20b1 : (t138 != 2301) = true := bne_iff_ne.mpr c20
                      obtain rfl := Option.some.inj H
                      go_enter Try.func17, Try.ntmps17
                      go_wp2_with (first | ((with_reducible refine gate_callee (f := 20) rfl ?_); refine goesL_ (some 1) rfl rfl Try.func20 (by kernel_rfl) rfl #[.int .i64 1800] rfl (by (try simp only [List.map_toArray, List.map_cons, List.map_nil]); first | done | rfl | (simp only [List.length_drop, List.length_take]; rfl)) ?_; (with_reducible refine (cruciblelaw0_Num.calls 1800 t129 _ A1.out).mono ?_); rintro e w' ⟨rfl, ⟨nd, rfl⟩⟩; refine ⟨_, rfl, ?_⟩) | (go_at_call 20; (with_reducible refine (cruciblelaw0_Num.calls 1801 t130 _ A3.out).mono ?_); rintro e w' ⟨rfl, ⟨nd, rfl⟩⟩) | (go_at_call 20; (with_reducible refine (cruciblelaw0_Num.calls 1900 t131 _ A5.out).mono ?_); rintro e w' ⟨rfl, ⟨nd, rfl⟩⟩) | (go_at_call 20; (with_reducible refine (cruciblelaw0_Num.calls 1901 t132 _ A7.out).mono ?_); rintro e w' ⟨rfl, ⟨nd, rfl⟩⟩) | (go_at_call 20; (with_reducible refine (cruciblelaw0_Num.calls 2000 t133 _ A9.out).mono ?_); rintro e w' ⟨rfl, ⟨nd, rfl⟩⟩) | (go_at_call 20; (with_reducible refine (cruciblelaw0_Num.calls 2001 t134 _ A11.out).mono ?_); rintro e w' ⟨rfl, ⟨nd, rfl⟩⟩) | (go_at_call 20; (with_reducible refine (cruciblelaw0_Num.calls 2100 t135 _ A13.out).mono ?_); rintro e w' ⟨rfl, ⟨nd, rfl⟩⟩) | (go_at_call 20; (with_reducible refine (cruciblelaw0_Num.calls 2200 t136 _ A15.out).mono ?_); rintro e w' ⟨rfl, ⟨nd, rfl⟩⟩) | (go_at_call 20; (with_reducible refine (cruciblelaw0_Num.calls 2300 t137 _ A17.out).mono ?_); rintro e w' ⟨rfl, ⟨nd, rfl⟩⟩) | (go_at_call 20; (with_reducible refine (cruciblelaw0_Num.calls 2301 t138 _ A19.out).mono ?_); rintro e w' ⟨rfl, ⟨nd, rfl⟩⟩))
                      go_ret
                      exact ⟨by first | rfl | (simp; done) | (simp [*]; done), by repeat (first | exact Drawn0.refl _ | apply Drawn0.step)⟩
                  · rw [if_neg c18] at H
                    have c18b0 : (t137 == 2300) = false := beq_eq_false_iff_ne.mpr c18
                    have c18b1 : (t137 != 2300) = true := bne_iff_ne.mpr c18
                    obtain rfl := Option.some.inj H
                    go_enter Try.func17, Try.ntmps17
                    go_wp2_with (first | ((with_reducible refine gate_callee (f := 20) rfl ?_); refine goesL_ (some 1) rfl rfl Try.func20 (by kernel_rfl) rfl #[.int .i64 1800] rfl (by (try simp only [List.map_toArray, List.map_cons, List.map_nil]); first | done | rfl | (simp only [List.length_drop, List.length_take]; rfl)) ?_; (with_reducible refine (cruciblelaw0_Num.calls 1800 t129 _ A1.out).mono ?_); rintro e w' ⟨rfl, ⟨nd, rfl⟩⟩; refine ⟨_, rfl, ?_⟩) | (go_at_call 20; (with_reducible refine (cruciblelaw0_Num.calls 1801 t130 _ A3.out).mono ?_); rintro e w' ⟨rfl, ⟨nd, rfl⟩⟩) | (go_at_call 20; (with_reducible refine (cruciblelaw0_Num.calls 1900 t131 _ A5.out).mono ?_); rintro e w' ⟨rfl, ⟨nd, rfl⟩⟩) | (go_at_call 20; (with_reducible refine (cruciblelaw0_Num.calls 1901 t132 _ A7.out).mono ?_); rintro e w' ⟨rfl, ⟨nd, rfl⟩⟩) | (go_at_call 20; (with_reducible refine (cruciblelaw0_Num.calls 2000 t133 _ A9.out).mono ?_); rintro e w' ⟨rfl, ⟨nd, rfl⟩⟩) | (go_at_call 20; (with_reducible refine (cruciblelaw0_Num.calls 2001 t134 _ A11.out).mono ?_); rintro e w' ⟨rfl, ⟨nd, rfl⟩⟩) | (go_at_call 20; (with_reducible refine (cruciblelaw0_Num.calls 2100 t135 _ A13.out).mono ?_); rintro e w' ⟨rfl, ⟨nd, rfl⟩⟩) | (go_at_call 20; (with_reducible refine (cruciblelaw0_Num.calls 2200 t136 _ A15.out).mono ?_); rintro e w' ⟨rfl, ⟨nd, rfl⟩⟩) | (go_at_call 20; (with_reducible refine (cruciblelaw0_Num.calls 2300 t137 _ A17.out).mono ?_); rintro e w' ⟨rfl, ⟨nd, rfl⟩⟩))
                    go_ret
                    exact ⟨by first | rfl | (simp; done) | (simp [*]; done), by repeat (first | exact Drawn0.refl _ | apply Drawn0.step)⟩
                · rw [if_neg c16] at H
                  have c16b0 : (t136 == 2200) = false := beq_eq_false_iff_ne.mpr c16
                  have c16b1 : (t136 != 2200) = true := bne_iff_ne.mpr c16
                  obtain rfl := Option.some.inj H
                  go_enter Try.func17, Try.ntmps17
                  go_wp2_with (first | ((with_reducible refine gate_callee (f := 20) rfl ?_); refine goesL_ (some 1) rfl rfl Try.func20 (by kernel_rfl) rfl #[.int .i64 1800] rfl (by (try simp only [List.map_toArray, List.map_cons, List.map_nil]); first | done | rfl | (simp only [List.length_drop, List.length_take]; rfl)) ?_; (with_reducible refine (cruciblelaw0_Num.calls 1800 t129 _ A1.out).mono ?_); rintro e w' ⟨rfl, ⟨nd, rfl⟩⟩; refine ⟨_, rfl, ?_⟩) | (go_at_call 20; (with_reducible refine (cruciblelaw0_Num.calls 1801 t130 _ A3.out).mono ?_); rintro e w' ⟨rfl, ⟨nd, rfl⟩⟩) | (go_at_call 20; (with_reducible refine (cruciblelaw0_Num.calls 1900 t131 _ A5.out).mono ?_); rintro e w' ⟨rfl, ⟨nd, rfl⟩⟩) | (go_at_call 20; (with_reducible refine (cruciblelaw0_Num.calls 1901 t132 _ A7.out).mono ?_); rintro e w' ⟨rfl, ⟨nd, rfl⟩⟩) | (go_at_call 20; (with_reducible refine (cruciblelaw0_Num.calls 2000 t133 _ A9.out).mono ?_); rintro e w' ⟨rfl, ⟨nd, rfl⟩⟩) | (go_at_call 20; (with_reducible refine (cruciblelaw0_Num.calls 2001 t134 _ A11.out).mono ?_); rintro e w' ⟨rfl, ⟨nd, rfl⟩⟩) | (go_at_call 20; (with_reducible refine (cruciblelaw0_Num.calls 2100 t135 _ A13.out).mono ?_); rintro e w' ⟨rfl, ⟨nd, rfl⟩⟩) | (go_at_call 20; (with_reducible refine (cruciblelaw0_Num.calls 2200 t136 _ A15.out).mono ?_); rintro e w' ⟨rfl, ⟨nd, rfl⟩⟩))
                  go_ret
                  exact ⟨by first | rfl | (simp; done) | (simp [*]; done), by repeat (first | exact Drawn0.refl _ | apply Drawn0.step)⟩
              · rw [if_neg c14] at H
                have c14b0 : (t135 == 2100) = false := beq_eq_false_iff_ne.mpr c14
                have c14b1 : (t135 != 2100) = true := bne_iff_ne.mpr c14
                obtain rfl := Option.some.inj H
                go_enter Try.func17, Try.ntmps17
                go_wp2_with (first | ((with_reducible refine gate_callee (f := 20) rfl ?_); refine goesL_ (some 1) rfl rfl Try.func20 (by kernel_rfl) rfl #[.int .i64 1800] rfl (by (try simp only [List.map_toArray, List.map_cons, List.map_nil]); first | done | rfl | (simp only [List.length_drop, List.length_take]; rfl)) ?_; (with_reducible refine (cruciblelaw0_Num.calls 1800 t129 _ A1.out).mono ?_); rintro e w' ⟨rfl, ⟨nd, rfl⟩⟩; refine ⟨_, rfl, ?_⟩) | (go_at_call 20; (with_reducible refine (cruciblelaw0_Num.calls 1801 t130 _ A3.out).mono ?_); rintro e w' ⟨rfl, ⟨nd, rfl⟩⟩) | (go_at_call 20; (with_reducible refine (cruciblelaw0_Num.calls 1900 t131 _ A5.out).mono ?_); rintro e w' ⟨rfl, ⟨nd, rfl⟩⟩) | (go_at_call 20; (with_reducible refine (cruciblelaw0_Num.calls 1901 t132 _ A7.out).mono ?_); rintro e w' ⟨rfl, ⟨nd, rfl⟩⟩) | (go_at_call 20; (with_reducible refine (cruciblelaw0_Num.calls 2000 t133 _ A9.out).mono ?_); rintro e w' ⟨rfl, ⟨nd, rfl⟩⟩) | (go_at_call 20; (with_reducible refine (cruciblelaw0_Num.calls 2001 t134 _ A11.out).mono ?_); rintro e w' ⟨rfl, ⟨nd, rfl⟩⟩) | (go_at_call 20; (with_reducible refine (cruciblelaw0_Num.calls 2100 t135 _ A13.out).mono ?_); rintro e w' ⟨rfl, ⟨nd, rfl⟩⟩))
                go_ret
                exact ⟨by first | rfl | (simp; done) | (simp [*]; done), by repeat (first | exact Drawn0.refl _ | apply Drawn0.step)⟩
            · rw [if_neg c12] at H
              have c12b0 : (t134 == 2001) = false := beq_eq_false_iff_ne.mpr c12
              have c12b1 : (t134 != 2001) = true := bne_iff_ne.mpr c12
              obtain rfl := Option.some.inj H
              go_enter Try.func17, Try.ntmps17
              go_wp2_with (first | ((with_reducible refine gate_callee (f := 20) rfl ?_); refine goesL_ (some 1) rfl rfl Try.func20 (by kernel_rfl) rfl #[.int .i64 1800] rfl (by (try simp only [List.map_toArray, List.map_cons, List.map_nil]); first | done | rfl | (simp only [List.length_drop, List.length_take]; rfl)) ?_; (with_reducible refine (cruciblelaw0_Num.calls 1800 t129 _ A1.out).mono ?_); rintro e w' ⟨rfl, ⟨nd, rfl⟩⟩; refine ⟨_, rfl, ?_⟩) | (go_at_call 20; (with_reducible refine (cruciblelaw0_Num.calls 1801 t130 _ A3.out).mono ?_); rintro e w' ⟨rfl, ⟨nd, rfl⟩⟩) | (go_at_call 20; (with_reducible refine (cruciblelaw0_Num.calls 1900 t131 _ A5.out).mono ?_); rintro e w' ⟨rfl, ⟨nd, rfl⟩⟩) | (go_at_call 20; (with_reducible refine (cruciblelaw0_Num.calls 1901 t132 _ A7.out).mono ?_); rintro e w' ⟨rfl, ⟨nd, rfl⟩⟩) | (go_at_call 20; (with_reducible refine (cruciblelaw0_Num.calls 2000 t133 _ A9.out).mono ?_); rintro e w' ⟨rfl, ⟨nd, rfl⟩⟩) | (go_at_call 20; (with_reducible refine (cruciblelaw0_Num.calls 2001 t134 _ A11.out).mono ?_); rintro e w' ⟨rfl, ⟨nd, rfl⟩⟩))
              go_ret
              exact ⟨by first | rfl | (simp; done) | (simp [*]; done), by repeat (first | exact Drawn0.refl _ | apply Drawn0.step)⟩
          · rw [if_neg c10] at H
            have c10b0 : (t133 == 2000) = false := beq_eq_false_iff_ne.mpr c10
            have c10b1 : (t133 != 2000) = true := bne_iff_ne.mpr c10
            obtain rfl := Option.some.inj H
            go_enter Try.func17, Try.ntmps17
            go_wp2_with (first | ((with_reducible refine gate_callee (f := 20) rfl ?_); refine goesL_ (some 1) rfl rfl Try.func20 (by kernel_rfl) rfl #[.int .i64 1800] rfl (by (try simp only [List.map_toArray, List.map_cons, List.map_nil]); first | done | rfl | (simp only [List.length_drop, List.length_take]; rfl)) ?_; (with_reducible refine (cruciblelaw0_Num.calls 1800 t129 _ A1.out).mono ?_); rintro e w' ⟨rfl, ⟨nd, rfl⟩⟩; refine ⟨_, rfl, ?_⟩) | (go_at_call 20; (with_reducible refine (cruciblelaw0_Num.calls 1801 t130 _ A3.out).mono ?_); rintro e w' ⟨rfl, ⟨nd, rfl⟩⟩) | (go_at_call 20; (with_reducible refine (cruciblelaw0_Num.calls 1900 t131 _ A5.out).mono ?_); rintro e w' ⟨rfl, ⟨nd, rfl⟩⟩) | (go_at_call 20; (with_reducible refine (cruciblelaw0_Num.calls 1901 t132 _ A7.out).mono ?_); rintro e w' ⟨rfl, ⟨nd, rfl⟩⟩) | (go_at_call 20; (with_reducible refine (cruciblelaw0_Num.calls 2000 t133 _ A9.out).mono ?_); rintro e w' ⟨rfl, ⟨nd, rfl⟩⟩))
            go_ret
            exact ⟨by first | rfl | (simp; done) | (simp [*]; done), by repeat (first | exact Drawn0.refl _ | apply Drawn0.step)⟩
        · rw [if_neg c8] at H
          have c8b0 : (t132 == 1901) = false := beq_eq_false_iff_ne.mpr c8
          have c8b1 : (t132 != 1901) = true := bne_iff_ne.mpr c8
          obtain rfl := Option.some.inj H
          go_enter Try.func17, Try.ntmps17
          go_wp2_with (first | ((with_reducible refine gate_callee (f := 20) rfl ?_); refine goesL_ (some 1) rfl rfl Try.func20 (by kernel_rfl) rfl #[.int .i64 1800] rfl (by (try simp only [List.map_toArray, List.map_cons, List.map_nil]); first | done | rfl | (simp only [List.length_drop, List.length_take]; rfl)) ?_; (with_reducible refine (cruciblelaw0_Num.calls 1800 t129 _ A1.out).mono ?_); rintro e w' ⟨rfl, ⟨nd, rfl⟩⟩; refine ⟨_, rfl, ?_⟩) | (go_at_call 20; (with_reducible refine (cruciblelaw0_Num.calls 1801 t130 _ A3.out).mono ?_); rintro e w' ⟨rfl, ⟨nd, rfl⟩⟩) | (go_at_call 20; (with_reducible refine (cruciblelaw0_Num.calls 1900 t131 _ A5.out).mono ?_); rintro e w' ⟨rfl, ⟨nd, rfl⟩⟩) | (go_at_call 20; (with_reducible refine (cruciblelaw0_Num.calls 1901 t132 _ A7.out).mono ?_); rintro e w' ⟨rfl, ⟨nd, rfl⟩⟩))
          go_ret
          exact ⟨by first | rfl | (simp; done) | (simp [*]; done), by repeat (first | exact Drawn0.refl _ | apply Drawn0.step)⟩
      · rw [if_neg c6] at H
        have c6b0 : (t131 == 1900) = false := beq_eq_false_iff_ne.mpr c6
        have c6b1 : (t131 != 1900) = true := bne_iff_ne.mpr c6
        obtain rfl := Option.some.inj H
        go_enter Try.func17, Try.ntmps17
        go_wp2_with (first | ((with_reducible refine gate_callee (f := 20) rfl ?_); refine goesL_ (some 1) rfl rfl Try.func20 (by kernel_rfl) rfl #[.int .i64 1800] rfl (by (try simp only [List.map_toArray, List.map_cons, List.map_nil]); first | done | rfl | (simp only [List.length_drop, List.length_take]; rfl)) ?_; (with_reducible refine (cruciblelaw0_Num.calls 1800 t129 _ A1.out).mono ?_); rintro e w' ⟨rfl, ⟨nd, rfl⟩⟩; refine ⟨_, rfl, ?_⟩) | (go_at_call 20; (with_reducible refine (cruciblelaw0_Num.calls 1801 t130 _ A3.out).mono ?_); rintro e w' ⟨rfl, ⟨nd, rfl⟩⟩) | (go_at_call 20; (with_reducible refine (cruciblelaw0_Num.calls 1900 t131 _ A5.out).mono ?_); rintro e w' ⟨rfl, ⟨nd, rfl⟩⟩))
        go_ret
        exact ⟨by first | rfl | (simp; done) | (simp [*]; done), by repeat (first | exact Drawn0.refl _ | apply Drawn0.step)⟩
    · rw [if_neg c4] at H
      have c4b0 : (t130 == 1801) = false := beq_eq_false_iff_ne.mpr c4
      have c4b1 : (t130 != 1801) = true := bne_iff_ne.mpr c4
      obtain rfl := Option.some.inj H
      go_enter Try.func17, Try.ntmps17
      go_wp2_with (first | ((with_reducible refine gate_callee (f := 20) rfl ?_); refine goesL_ (some 1) rfl rfl Try.func20 (by kernel_rfl) rfl #[.int .i64 1800] rfl (by (try simp only [List.map_toArray, List.map_cons, List.map_nil]); first | done | rfl | (simp only [List.length_drop, List.length_take]; rfl)) ?_; (with_reducible refine (cruciblelaw0_Num.calls 1800 t129 _ A1.out).mono ?_); rintro e w' ⟨rfl, ⟨nd, rfl⟩⟩; refine ⟨_, rfl, ?_⟩) | (go_at_call 20; (with_reducible refine (cruciblelaw0_Num.calls 1801 t130 _ A3.out).mono ?_); rintro e w' ⟨rfl, ⟨nd, rfl⟩⟩))
      go_ret
      exact ⟨by first | rfl | (simp; done) | (simp [*]; done), by repeat (first | exact Drawn0.refl _ | apply Drawn0.step)⟩
  · rw [if_neg c2] at H
    have c2b0 : (t129 == 1800) = false := beq_eq_false_iff_ne.mpr c2
    have c2b1 : (t129 != 1800) = true := bne_iff_ne.mpr c2
    obtain rfl := Option.some.inj H
    go_enter Try.func17, Try.ntmps17
    go_wp2_with (first | ((with_reducible refine gate_callee (f := 20) rfl ?_); refine goesL_ (some 1) rfl rfl Try.func20 (by kernel_rfl) rfl #[.int .i64 1800] rfl (by (try simp only [List.map_toArray, List.map_cons, List.map_nil]); first | done | rfl | (simp only [List.length_drop, List.length_take]; rfl)) ?_; (with_reducible refine (cruciblelaw0_Num.calls 1800 t129 _ A1.out).mono ?_); rintro e w' ⟨rfl, ⟨nd, rfl⟩⟩; refine ⟨_, rfl, ?_⟩))
    go_ret
    exact ⟨by first | rfl | (simp; done) | (simp [*]; done), by repeat (first | exact Drawn0.refl _ | apply Drawn0.step)⟩

/-! ### cruciblelaw0_numbers1: function 18 -/
def cruciblelaw0_numbers1.f  : Option (Bool) := some true
set_option maxHeartbeats 8000000 in
set_option maxRecDepth 100000 in
theorem cruciblelaw0_numbers1.calls  (r : Bool) (w : World) (h : cruciblelaw0_numbers1.f  = some r) :
    Calls Try.prog 18 #[] w fun e w' => e = .returned (.bool r) ∧ Drawn0 w w' := by
  have H : (some true) = some r := h
  clear h
  obtain rfl := Option.some.inj H
  go_enter Try.func18, Try.ntmps18
  go_wp2
  go_ret
  exact ⟨by first | rfl | (simp; done) | (simp [*]; done), by repeat (first | exact Drawn0.refl _ | apply Drawn0.step)⟩

/-! ### cruciblelaw0_numbers2: function 19 -/
def cruciblelaw0_numbers2.f  : Option (Bool) := some true
set_option maxHeartbeats 8000000 in
set_option maxRecDepth 100000 in
theorem cruciblelaw0_numbers2.calls  (r : Bool) (w : World) (h : cruciblelaw0_numbers2.f  = some r) :
    Calls Try.prog 19 #[] w fun e w' => e = .returned (.bool r) ∧ Drawn0 w w' := by
  have H : (some true) = some r := h
  clear h
  obtain rfl := Option.some.inj H
  go_enter Try.func19, Try.ntmps19
  go_wp2
  go_ret
  exact ⟨by first | rfl | (simp; done) | (simp [*]; done), by repeat (first | exact Drawn0.refl _ | apply Drawn0.step)⟩

/-! ### cruciblelaw0_CrucibleNames: function 3 -/
def cruciblelaw0_CrucibleNames.f  : Option (Bool) := (cruciblelaw0_errors1.f).bind fun t141 => (if t141 = true then ((cruciblelaw0_errors2.f).bind fun t142 => (if t142 = true then ((cruciblelaw0_errors3.f).bind fun t143 => (if t143 = true then ((cruciblelaw0_numbers1.f).bind fun t144 => (if t144 = true then ((cruciblelaw0_numbers2.f).bind fun t145 => (some t145)) else (some false))) else (some false))) else (some false))) else (some false))
set_option maxHeartbeats 8000000 in
set_option maxRecDepth 100000 in
theorem cruciblelaw0_CrucibleNames.calls  (r : Bool) (w : World) (h : cruciblelaw0_CrucibleNames.f  = some r) :
    Calls Try.prog 3 #[] w fun e w' => e = .returned (.bool r) ∧ Drawn0 w w' := by
  have H : ((cruciblelaw0_errors1.f).bind fun t141 => (if t141 = true then ((cruciblelaw0_errors2.f).bind fun t142 => (if t142 = true then ((cruciblelaw0_errors3.f).bind fun t143 => (if t143 = true then ((cruciblelaw0_numbers1.f).bind fun t144 => (if t144 = true then ((cruciblelaw0_numbers2.f).bind fun t145 => (some t145)) else (some false))) else (some false))) else (some false))) else (some false))) = some r := h
  clear h
  replace H := Option.bind_eq_some_iff.mp H
  obtain ⟨t141, A10, H⟩ := H
  replace H : (if t141 = true then ((cruciblelaw0_errors2.f).bind fun t142 => (if t142 = true then ((cruciblelaw0_errors3.f).bind fun t143 => (if t143 = true then ((cruciblelaw0_numbers1.f).bind fun t144 => (if t144 = true then ((cruciblelaw0_numbers2.f).bind fun t145 => (some t145)) else (some false))) else (some false))) else (some false))) else (some false)) = some r := H
  have A1 := Aside0.mk A10
  clear A10
  by_cases c2 : t141 = true
  · subst c2
    have H1 : ((cruciblelaw0_errors2.f).bind fun t142 => (if t142 = true then ((cruciblelaw0_errors3.f).bind fun t143 => (if t143 = true then ((cruciblelaw0_numbers1.f).bind fun t144 => (if t144 = true then ((cruciblelaw0_numbers2.f).bind fun t145 => (some t145)) else (some false))) else (some false))) else (some false))) = some r := by rw [if_pos rfl] at H; exact H
    clear H
    have H := H1
    clear H1
    replace H := Option.bind_eq_some_iff.mp H
    obtain ⟨t142, A30, H⟩ := H
    replace H : (if t142 = true then ((cruciblelaw0_errors3.f).bind fun t143 => (if t143 = true then ((cruciblelaw0_numbers1.f).bind fun t144 => (if t144 = true then ((cruciblelaw0_numbers2.f).bind fun t145 => (some t145)) else (some false))) else (some false))) else (some false)) = some r := H
    have A3 := Aside0.mk A30
    clear A30
    by_cases c4 : t142 = true
    · subst c4
      have H1 : ((cruciblelaw0_errors3.f).bind fun t143 => (if t143 = true then ((cruciblelaw0_numbers1.f).bind fun t144 => (if t144 = true then ((cruciblelaw0_numbers2.f).bind fun t145 => (some t145)) else (some false))) else (some false))) = some r := by rw [if_pos rfl] at H; exact H
      clear H
      have H := H1
      clear H1
      replace H := Option.bind_eq_some_iff.mp H
      obtain ⟨t143, A50, H⟩ := H
      replace H : (if t143 = true then ((cruciblelaw0_numbers1.f).bind fun t144 => (if t144 = true then ((cruciblelaw0_numbers2.f).bind fun t145 => (some t145)) else (some false))) else (some false)) = some r := H
      have A5 := Aside0.mk A50
      clear A50
      by_cases c6 : t143 = true
      · subst c6
        have H1 : ((cruciblelaw0_numbers1.f).bind fun t144 => (if t144 = true then ((cruciblelaw0_numbers2.f).bind fun t145 => (some t145)) else (some false))) = some r := by rw [if_pos rfl] at H; exact H
        clear H
        have H := H1
        clear H1
        replace H := Option.bind_eq_some_iff.mp H
        obtain ⟨t144, A70, H⟩ := H
        replace H : (if t144 = true then ((cruciblelaw0_numbers2.f).bind fun t145 => (some t145)) else (some false)) = some r := H
        have A7 := Aside0.mk A70
        clear A70
        by_cases c8 : t144 = true
        · subst c8
          have H1 : ((cruciblelaw0_numbers2.f).bind fun t145 => (some t145)) = some r := by rw [if_pos rfl] at H; exact H
          clear H
          have H := H1
          clear H1
          replace H := Option.bind_eq_some_iff.mp H
          obtain ⟨t145, A90, H⟩ := H
          replace H : (some t145) = some r := H
          have A9 := Aside0.mk A90
          clear A90
          obtain rfl := Option.some.inj H
          go_enter Try.func3, Try.ntmps3
          go_wp2_with (first | ((with_reducible refine gate_callee (f := 15) rfl ?_); refine goesL_ (some 1) rfl rfl Try.func15 (by kernel_rfl) rfl #[] rfl (by (try simp only [List.map_toArray, List.map_cons, List.map_nil]); first | done | rfl | (simp only [List.length_drop, List.length_take]; rfl)) ?_; (with_reducible refine (cruciblelaw0_errors1.calls  true _ A1.out).mono ?_); rintro e w' ⟨rfl, ⟨nd, rfl⟩⟩; refine ⟨_, rfl, ?_⟩) | (go_at_call 16; (with_reducible refine (cruciblelaw0_errors2.calls  true _ A3.out).mono ?_); rintro e w' ⟨rfl, ⟨nd, rfl⟩⟩) | (go_at_call 17; (with_reducible refine (cruciblelaw0_errors3.calls  true _ A5.out).mono ?_); rintro e w' ⟨rfl, ⟨nd, rfl⟩⟩) | (go_at_call 18; (with_reducible refine (cruciblelaw0_numbers1.calls  true _ A7.out).mono ?_); rintro e w' ⟨rfl, ⟨nd, rfl⟩⟩) | (go_at_call 19; (with_reducible refine (cruciblelaw0_numbers2.calls  t145 _ A9.out).mono ?_); rintro e w' ⟨rfl, ⟨nd, rfl⟩⟩))
          go_ret
          exact ⟨by first | rfl | (simp; done) | (simp [*]; done), by repeat (first | exact Drawn0.refl _ | apply Drawn0.step)⟩
        · replace c8 := Bool.eq_false_iff.mpr c8
          subst c8
          have H1 : (some false) = some r := by rw [if_neg (show ¬ (false = true) by decide)] at H; exact H
          clear H
          have H := H1
          clear H1
          obtain rfl := Option.some.inj H
          go_enter Try.func3, Try.ntmps3
          go_wp2_with (first | ((with_reducible refine gate_callee (f := 15) rfl ?_); refine goesL_ (some 1) rfl rfl Try.func15 (by kernel_rfl) rfl #[] rfl (by (try simp only [List.map_toArray, List.map_cons, List.map_nil]); first | done | rfl | (simp only [List.length_drop, List.length_take]; rfl)) ?_; (with_reducible refine (cruciblelaw0_errors1.calls  true _ A1.out).mono ?_); rintro e w' ⟨rfl, ⟨nd, rfl⟩⟩; refine ⟨_, rfl, ?_⟩) | (go_at_call 16; (with_reducible refine (cruciblelaw0_errors2.calls  true _ A3.out).mono ?_); rintro e w' ⟨rfl, ⟨nd, rfl⟩⟩) | (go_at_call 17; (with_reducible refine (cruciblelaw0_errors3.calls  true _ A5.out).mono ?_); rintro e w' ⟨rfl, ⟨nd, rfl⟩⟩) | (go_at_call 18; (with_reducible refine (cruciblelaw0_numbers1.calls  false _ A7.out).mono ?_); rintro e w' ⟨rfl, ⟨nd, rfl⟩⟩))
          go_ret
          exact ⟨by first | rfl | (simp; done) | (simp [*]; done), by repeat (first | exact Drawn0.refl _ | apply Drawn0.step)⟩
      · replace c6 := Bool.eq_false_iff.mpr c6
        subst c6
        have H1 : (some false) = some r := by rw [if_neg (show ¬ (false = true) by decide)] at H; exact H
        clear H
        have H := H1
        clear H1
        obtain rfl := Option.some.inj H
        go_enter Try.func3, Try.ntmps3
        go_wp2_with (first | ((with_reducible refine gate_callee (f := 15) rfl ?_); refine goesL_ (some 1) rfl rfl Try.func15 (by kernel_rfl) rfl #[] rfl (by (try simp only [List.map_toArray, List.map_cons, List.map_nil]); first | done | rfl | (simp only [List.length_drop, List.length_take]; rfl)) ?_; (with_reducible refine (cruciblelaw0_errors1.calls  true _ A1.out).mono ?_); rintro e w' ⟨rfl, ⟨nd, rfl⟩⟩; refine ⟨_, rfl, ?_⟩) | (go_at_call 16; (with_reducible refine (cruciblelaw0_errors2.calls  true _ A3.out).mono ?_); rintro e w' ⟨rfl, ⟨nd, rfl⟩⟩) | (go_at_call 17; (with_reducible refine (cruciblelaw0_errors3.calls  false _ A5.out).mono ?_); rintro e w' ⟨rfl, ⟨nd, rfl⟩⟩))
        go_ret
        exact ⟨by first | rfl | (simp; done) | (simp [*]; done), by repeat (first | exact Drawn0.refl _ | apply Drawn0.step)⟩
    · replace c4 := Bool.eq_false_iff.mpr c4
      subst c4
      have H1 : (some false) = some r := by rw [if_neg (show ¬ (false = true) by decide)] at H; exact H
      clear H
      have H := H1
      clear H1
      obtain rfl := Option.some.inj H
      go_enter Try.func3, Try.ntmps3
      go_wp2_with (first | ((with_reducible refine gate_callee (f := 15) rfl ?_); refine goesL_ (some 1) rfl rfl Try.func15 (by kernel_rfl) rfl #[] rfl (by (try simp only [List.map_toArray, List.map_cons, List.map_nil]); first | done | rfl | (simp only [List.length_drop, List.length_take]; rfl)) ?_; (with_reducible refine (cruciblelaw0_errors1.calls  true _ A1.out).mono ?_); rintro e w' ⟨rfl, ⟨nd, rfl⟩⟩; refine ⟨_, rfl, ?_⟩) | (go_at_call 16; (with_reducible refine (cruciblelaw0_errors2.calls  false _ A3.out).mono ?_); rintro e w' ⟨rfl, ⟨nd, rfl⟩⟩))
      go_ret
      exact ⟨by first | rfl | (simp; done) | (simp [*]; done), by repeat (first | exact Drawn0.refl _ | apply Drawn0.step)⟩
  · replace c2 := Bool.eq_false_iff.mpr c2
    subst c2
    have H1 : (some false) = some r := by rw [if_neg (show ¬ (false = true) by decide)] at H; exact H
    clear H
    have H := H1
    clear H1
    obtain rfl := Option.some.inj H
    go_enter Try.func3, Try.ntmps3
    go_wp2_with (first | ((with_reducible refine gate_callee (f := 15) rfl ?_); refine goesL_ (some 1) rfl rfl Try.func15 (by kernel_rfl) rfl #[] rfl (by (try simp only [List.map_toArray, List.map_cons, List.map_nil]); first | done | rfl | (simp only [List.length_drop, List.length_take]; rfl)) ?_; (with_reducible refine (cruciblelaw0_errors1.calls  false _ A1.out).mono ?_); rintro e w' ⟨rfl, ⟨nd, rfl⟩⟩; refine ⟨_, rfl, ?_⟩))
    go_ret
    exact ⟨by first | rfl | (simp; done) | (simp [*]; done), by repeat (first | exact Drawn0.refl _ | apply Drawn0.step)⟩

/-- THE ONE PURE STATEMENT of cruciblelaw0_CrucibleNames: yours. -/
def cruciblelaw0_CrucibleNames.Pure : Prop := cruciblelaw0_CrucibleNames.f  = some true
theorem cruciblelaw0_CrucibleNames.walk (P : cruciblelaw0_CrucibleNames.Pure)  (w : World)  :
    Calls Try.prog 3 #[] w fun e w' => e = .returned (.bool true) ∧ Below w.heap.size w w' := by
  have h := P  
  refine (cruciblelaw0_CrucibleNames.calls  true w h).mono ?_
  rintro e w' ⟨rfl, hd⟩
  exact ⟨rfl, hd.below⟩

-- GIVEN: function 21 (name_May)

/-! ### crucibleref1_small: function 43 -/
def crucibleref1_small.f (a0 : Int) : Option (Bool) := if a0 ≥ 97 then (if a0 ≤ 122 then (some true) else (if a0 ≥ 48 then (some (decide (a0 ≤ 57))) else (some false))) else (if a0 ≥ 48 then (some (decide (a0 ≤ 57))) else (some false))
set_option maxHeartbeats 8000000 in
set_option maxRecDepth 100000 in
theorem crucibleref1_small.calls (a0 : Int) (r : Bool) (w : World) (h : crucibleref1_small.f a0 = some r) :
    Calls Try.prog 43 #[.int .u8 a0] w fun e w' => e = .returned (.bool r) ∧ Drawn0 w w' := by
  have H : (if a0 ≥ 97 then (if a0 ≤ 122 then (some true) else (if a0 ≥ 48 then (some (decide (a0 ≤ 57))) else (some false))) else (if a0 ≥ 48 then (some (decide (a0 ≤ 57))) else (some false))) = some r := h
  clear h
  by_cases c2 : a0 ≥ 97
  · rw [if_pos c2] at H
    have c2b0 : decide (97 ≤ a0) = true := decide_eq_true c2
    clear c2
    by_cases c3 : a0 ≤ 122
    · rw [if_pos c3] at H
      have c3b0 : decide (a0 ≤ 122) = true := decide_eq_true c3
      clear c3
      obtain rfl := Option.some.inj H
      go_enter Try.func43, Try.ntmps43
      go_wp2
      go_ret
      exact ⟨by first | rfl | (simp; done) | (simp [*]; done), by repeat (first | exact Drawn0.refl _ | apply Drawn0.step)⟩
    · rw [if_neg c3] at H
      have c3b0 : decide (a0 ≤ 122) = false := decide_eq_false c3
      clear c3
      by_cases c4 : a0 ≥ 48
      · rw [if_pos c4] at H
        have c4b0 : decide (48 ≤ a0) = true := decide_eq_true c4
        clear c4
        obtain rfl := Option.some.inj H
        go_enter Try.func43, Try.ntmps43
        go_wp2
        go_ret
        exact ⟨by first | rfl | (simp; done) | (simp [*]; done), by repeat (first | exact Drawn0.refl _ | apply Drawn0.step)⟩
      · rw [if_neg c4] at H
        have c4b0 : decide (48 ≤ a0) = false := decide_eq_false c4
        clear c4
        obtain rfl := Option.some.inj H
        go_enter Try.func43, Try.ntmps43
        go_wp2
        go_ret
        exact ⟨by first | rfl | (simp; done) | (simp [*]; done), by repeat (first | exact Drawn0.refl _ | apply Drawn0.step)⟩
  · rw [if_neg c2] at H
    have c2b0 : decide (97 ≤ a0) = false := decide_eq_false c2
    clear c2
    by_cases c5 : a0 ≥ 48
    · rw [if_pos c5] at H
      have c5b0 : decide (48 ≤ a0) = true := decide_eq_true c5
      clear c5
      obtain rfl := Option.some.inj H
      go_enter Try.func43, Try.ntmps43
      go_wp2
      go_ret
      exact ⟨by first | rfl | (simp; done) | (simp [*]; done), by repeat (first | exact Drawn0.refl _ | apply Drawn0.step)⟩
    · rw [if_neg c5] at H
      have c5b0 : decide (48 ≤ a0) = false := decide_eq_false c5
      clear c5
      obtain rfl := Option.some.inj H
      go_enter Try.func43, Try.ntmps43
      go_wp2
      go_ret
      exact ⟨by first | rfl | (simp; done) | (simp [*]; done), by repeat (first | exact Drawn0.refl _ | apply Drawn0.step)⟩

end Go.Proofs.Ytchkgljhklfhnaa.Print
