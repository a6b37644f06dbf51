/-
  Rising, of the program and of the reference. (Made of the texts on NoTwice by a small program.)
-/
import Derived.Test.YtgkloiodfhmckaaNoTwice
namespace Go.Proofs.Ytgkloiodfhmckaa
set_option linter.unusedSimpArgs false
set_option linter.unusedVariables false
open Go.RowKit

set_option maxHeartbeats 400000 in
theorem risingI_any (v : Value) (hs : List Hand) (fp : List Nat) (w : World) (h : Sl w v hs fp) :
    Calls Try.prog 23 #[v] w fun e w' => e = .returned (.bool (pB (noPair clash2 hs))) ∧ Below w.heap.size w w' := by
  obtain ⟨ao, ca, rfl, ha1, ha2, ha3⟩ := h.openk 4 rfl
  clear h
  by_cases h400 : hs.length ≤ 400
  · go_enter Try.func23, Try.ntmps23
    go_wp2_with fail
    go_loopw [12] (fun i wr => ∃ n : Nat, n ≤ hs.length ∧ i = .int .i64 n ∧ Below w.heap.size w wr ∧ upTo clash2 hs n) (fun i _ => hs.length - (intOf i).toNat)
    case atStart => exact ⟨0, Nat.zero_le _, rfl, Below.refl _ _, fun _ _ _ _ h => by omega⟩
    case round =>
      obtain ⟨n, hn, rfl, hbw, hu⟩ := hrel
      have HU := Lib.hid hu
      clear hu
      by_cases hlt : n < hs.length
      · obtain ⟨b1, o1, rfl, hb1, _, he1⟩ := ha3 (by omega)
        obtain ⟨_, f1, hr1, ⟨rfl, _, _⟩, _⟩ := he1 n hlt
        obtain ⟨c0, c1, c2, c3⟩ := cells4 (rangeAt_below hr1 hbw)
        obtain ⟨a, hA⟩ : ∃ a, hs[n] = a := ⟨_, rfl⟩
        rw [hA] at c0 c1 c2 c3
        have HA := Lib.hid hA
        clear hA hr1
        obtain ⟨hE, hEdef⟩ : ∃ p : Prop, p = (∀ i (hi : i < hs.length), ∃ cs f, w.rangeAt b1 (o1 + i * 4) cs ∧ Shape.C w cs hs[i] f ∧ ∀ c ∈ f, c ∈ fp) := ⟨_, rfl⟩
        have HE := Lib.hid he1
        clear he1 hEdef hE ha3
        have hnca : n ≤ ca := by omega
        go_wp2_with fail
        have ka0 := cell_new wr #[I a.run, I a.task, I a.try_, I a.at_] 73 0 (I a.run) rfl
        have ka1 := cell_new wr #[I a.run, I a.task, I a.try_, I a.at_] 73 1 (I a.task) rfl
        have ka2 := cell_new wr #[I a.run, I a.task, I a.try_, I a.at_] 73 2 (I a.try_) rfl
        have hbo : Below w.heap.size w (wr.alloc (.cells #[I a.run, I a.task, I a.try_, I a.at_] 73)) := hbw.alloc hbw.size _
        have hBa : wr.heap.size < (wr.alloc (.cells #[I a.run, I a.task, I a.try_, I a.at_] 73)).heap.size := by simp
        have hsz := hbw.size
        obtain ⟨b0, hb0⟩ : ∃ b0, wr.heap.size = b0 := ⟨_, rfl⟩
        rw [hb0] at hBa hsz ka0 ka1 ka2
        rw [hb0]
        clear hb0
        generalize World.alloc wr (.cells #[I a.run, I a.task, I a.try_, I a.at_] 73) = wo at *
        go_loopw [21] (fun j wi => ∃ m : Nat, m ≤ n ∧ j = .int .i64 m ∧ Below wo.heap.size wo wi ∧ upTo2 clash2 hs n m) (fun j _ => n - (intOf j).toNat)
        case atStart => exact ⟨0, Nat.zero_le _, rfl, Below.refl _ _, fun _ _ _ h => by omega⟩
        case round =>
          obtain ⟨m, hm, rfl, hbi, hu2⟩ := hrel
          have HU2 := Lib.hid hu2
          clear hu2
          by_cases hlt2 : m < n
          · obtain ⟨_, f2, hr2, ⟨rfl, _, _⟩, _⟩ := HE.out m (by omega)
            have hbi' := hbo.trans (hbi.mono hbo.size)
            obtain ⟨d0, d1, d2, d3⟩ := cells4 (rangeAt_below hr2 hbi')
            have e0 := keep_cell ka0 hbi hBa
            have e1 := keep_cell ka1 hbi hBa
            have e2 := keep_cell ka2 hbi hBa
            obtain ⟨b, hB⟩ : ∃ b, hs[m]'(by omega) = b := ⟨_, rfl⟩
            rw [hB] at d0 d1 d2 d3
            have HB := Lib.hid hB
            clear hB hr2 ka0 ka1 ka2
            have hBi : b0 < wr.heap.size := by have := hbi.size; omega
            by_cases g1 : a.run = b.run
            · have G1 : (a.run == b.run) = true := by simpa using g1
              by_cases g2 : a.task = b.task
              · have G2 : (a.task == b.task) = true := by simpa using g2
                by_cases g3 : a.try_ ≤ b.try_
                · have G3 : decide (a.try_ ≤ b.try_) = true := by simpa using g3
                  have HG := Lib.hid (And.intro g1 (And.intro g2 g3))
                  clear g1 g2 g3
                  go_wp2_with fail
                  go_ret
                  exact ⟨ret_f (fun h => h.2 n m hlt2 hlt (by rw [HA.out, HB.out]; exact HG.out)), hbi'.alloc (by have := hbi'.size; omega) _⟩
                · have G3 : decide (a.try_ ≤ b.try_) = false := by simpa using g3
                  have HG := Lib.hid g3
                  clear g1 g2 g3
                  go_wp2_with fail
                  go_roundw
                  case rel => exact ⟨m + 1, by omega, by go_num, hbi.alloc (by simp [hbi.size]) _, upTo2_step HU2.out hlt2 hlt (by rw [HA.out, HB.out]; exact fun h => absurd h.2.2 (by have := HG.out; omega))⟩
                  case measure => simp [intOf]; omega
              · have G2 : (a.task == b.task) = false := by simpa using g2
                have HG := Lib.hid g2
                clear g1 g2
                go_wp2_with fail
                go_roundw
                case rel => exact ⟨m + 1, by omega, by go_num, hbi.alloc (by simp [hbi.size]) _, upTo2_step HU2.out hlt2 hlt (by rw [HA.out, HB.out]; exact fun h => HG.out h.2.1)⟩
                case measure => simp [intOf]; omega
            · have G1 : (a.run == b.run) = false := by simpa using g1
              go_wp2_with fail
              go_roundw
              case rel => exact ⟨m + 1, by omega, by go_num, hbi.alloc (by simp [hbi.size]) _, upTo2_step HU2.out hlt2 hlt (by rw [HA.out, HB.out]; exact fun h => g1 h.1)⟩
              case measure => simp [intOf]; omega
          · go_wp2_with fail
            go_roundw
            case rel => exact ⟨n + 1, by omega, by go_num, hbo.trans (hbi.mono hbo.size), upTo_stepm HU.out hm hlt2 HU2.out⟩
            case measure => simp [intOf]; omega
      · go_wp2_with fail
        go_ret
        exact ⟨ret_t ⟨h400, fun i j hj hi => HU.out i j hj hi (by omega)⟩, hbw⟩
  · go_enter Try.func23, Try.ntmps23
    go_wp2_with fail
    go_ret
    exact ⟨ret_f (fun h => h400 h.1), Below.refl _ _⟩

set_option maxHeartbeats 400000 in
theorem risingS_any (v : Value) (hs : List Hand) (fp : List Nat) (w : World) (h : Sl w v hs fp) :
    Calls Try.prog 22 #[v] w fun e w' => e = .returned (.bool (pB (noPair clash2 hs))) ∧ Below w.heap.size w w' := by
  obtain ⟨ao, ca, rfl, ha1, ha2, ha3⟩ := h.openk 4 rfl
  clear h
  by_cases h400 : hs.length ≤ 400
  · go_enter Try.func22, Try.ntmps22
    go_wp2_with fail
    go_loopw [3] (fun i wr => ∃ n : Nat, n ≤ hs.length ∧ i = .int .i64 n ∧ Below w.heap.size w wr ∧ upTo clash2 hs n) (fun i _ => hs.length - (intOf i).toNat)
    case atStart => exact ⟨0, Nat.zero_le _, rfl, Below.refl _ _, fun _ _ _ _ h => by omega⟩
    case round =>
      obtain ⟨n, hn, rfl, hbw, hu⟩ := hrel
      have HU := Lib.hid hu
      clear hu
      by_cases hlt : n < hs.length
      · obtain ⟨b1, o1, rfl, hb1, _, he1⟩ := ha3 (by omega)
        have HE := Lib.hid he1
        clear he1 ha3
        go_wp2_with fail
        obtain ⟨wo, rfl⟩ : ∃ wo : World, wo = wr := ⟨_, rfl⟩
        go_loopw [4] (fun j wi => ∃ m : Nat, m ≤ n ∧ j = .int .i64 m ∧ Below wo.heap.size wo wi ∧ upTo2 clash2 hs n m) (fun j _ => n - (intOf j).toNat)
        case atStart => exact ⟨0, Nat.zero_le _, rfl, Below.refl _ _, fun _ _ _ h => by omega⟩
        case round =>
          obtain ⟨m, hm, rfl, hbi, hu2⟩ := hrel
          have HU2 := Lib.hid hu2
          clear hu2
          by_cases hlt2 : m < n
          · have hbi' := hbw.trans (hbi.mono hbw.size)
            obtain ⟨_, f1, hr1, ⟨rfl, _, _⟩, _⟩ := HE.out n (by omega)
            obtain ⟨_, f2, hr2, ⟨rfl, _, _⟩, _⟩ := HE.out m (by omega)
            obtain ⟨c0, c1, c2, c3⟩ := cells4 (rangeAt_below hr1 hbi')
            obtain ⟨d0, d1, d2, d3⟩ := cells4 (rangeAt_below hr2 hbi')
            obtain ⟨a, hA⟩ : ∃ a, hs[n]'(by omega) = a := ⟨_, rfl⟩
            obtain ⟨b, hB⟩ : ∃ b, hs[m]'(by omega) = b := ⟨_, rfl⟩
            rw [hA] at c0 c1 c2 c3
            rw [hB] at d0 d1 d2 d3
            have HA := Lib.hid hA
            have HB := Lib.hid hB
            clear hA hB hr1 hr2 c3 d3
            have hn0 : (n : Int) < hs.length := by omega
            have hm0 : (m : Int) < hs.length := by omega
            by_cases g1 : a.run = b.run
            · have G1 : (a.run == b.run) = true := by simpa using g1
              by_cases g2 : a.task = b.task
              · have G2 : (a.task == b.task) = true := by simpa using g2
                by_cases g3 : a.try_ ≤ b.try_
                · have G3 : decide (a.try_ ≤ b.try_) = true := by simpa using g3
                  have HG := Lib.hid (And.intro g1 (And.intro g2 g3))
                  clear g1 g2 g3
                  go_wp2_with fail
                  go_quiet (fail)
                  go_wp2_with fail
                  go_ret
                  exact ⟨ret_f (fun h => h.2 n m hlt2 hlt (by rw [HA.out, HB.out]; exact HG.out)), below_drewN hbi' _⟩
                · have G3 : decide (a.try_ ≤ b.try_) = false := by simpa using g3
                  have HG := Lib.hid g3
                  clear g1 g2 g3
                  go_wp2_with fail
                  go_quiet (fail)
                  go_wp2_with fail
                  go_roundw
                  case rel => exact ⟨m + 1, by omega, by go_num, below_drewN hbi _, upTo2_step HU2.out hlt2 hlt (by rw [HA.out, HB.out]; exact fun h => absurd h.2.2 (by have := HG.out; omega))⟩
                  case measure => simp [intOf]; omega
              · have G2 : (a.task == b.task) = false := by simpa using g2
                have HG := Lib.hid g2
                clear g1 g2
                go_wp2_with fail
                go_quiet (fail)
                go_wp2_with fail
                go_roundw
                case rel => exact ⟨m + 1, by omega, by go_num, below_drewN hbi _, upTo2_step HU2.out hlt2 hlt (by rw [HA.out, HB.out]; exact fun h => HG.out h.2.1)⟩
                case measure => simp [intOf]; omega
            · have G1 : (a.run == b.run) = false := by simpa using g1
              have HG := Lib.hid g1
              clear g1
              go_wp2_with fail
              go_quiet (fail)
              go_wp2_with fail
              go_roundw
              case rel => exact ⟨m + 1, by omega, by go_num, below_drewN hbi _, upTo2_step HU2.out hlt2 hlt (by rw [HA.out, HB.out]; exact fun h => HG.out h.1)⟩
              case measure => simp [intOf]; omega
          · go_wp2_with fail
            go_roundw
            case rel => exact ⟨n + 1, by omega, by go_num, hbw.trans (hbi.mono hbw.size), upTo_stepm HU.out hm hlt2 HU2.out⟩
            case measure => simp [intOf]; omega
      · go_wp2_with fail
        go_ret
        exact ⟨ret_t ⟨h400, fun i j hj hi => HU.out i j hj hi (by omega)⟩, hbw⟩
  · go_enter Try.func22, Try.ntmps22
    go_wp2_with fail
    go_ret
    exact ⟨ret_f (fun h => h400 h.1), Below.refl _ _⟩
end Go.Proofs.Ytgkloiodfhmckaa
