/- Contracts of package naturals: plus, Add. -/
import Derived.Test.YtiohceaddojedaaGreatDoorGb
namespace Go.Proofs.YtiohceaddojedaaGreatDoor
open Go.RowKit Bf

/-- The carry into a word of a sum. -/
def car (V U k : Nat) : Nat := if 18446744073709551616 ^ k ≤ V % 18446744073709551616 ^ k + U % 18446744073709551616 ^ k then 1 else 0
theorem car_zero (V U : Nat) : car V U 0 = 0 := by simp [car, Nat.mod_one]
theorem car_le (V U k : Nat) : car V U k ≤ 1 := by unfold car; split <;> omega
theorem add_word (V U k : Nat) : (word V k + word U k + car V U k) % 18446744073709551616 = word (V + U) k := by
  have hp := wpow_pos k
  have e1 := Nat.div_add_mod V (18446744073709551616 ^ k)
  have e2 := Nat.div_add_mod U (18446744073709551616 ^ k)
  have l1 := Nat.mod_lt V hp
  have l2 := Nat.mod_lt U hp
  unfold car word
  generalize 18446744073709551616 ^ k = P at *
  generalize V % P = a at *
  generalize U % P = b at *
  have hd : (V + U) / P = V / P + U / P + (if P ≤ a + b then 1 else 0) := by
    generalize V / P = x at *
    generalize U / P = y at *
    split
    · rename_i h
      rw [show V + U = (a + b - P) + P * (x + y + 1) by rw [Nat.mul_add, Nat.mul_add]; omega, Nat.add_mul_div_left _ _ hp, Nat.div_eq_of_lt (by omega)]; omega
    · rw [show V + U = (a + b) + P * (x + y) by rw [Nat.mul_add]; omega, Nat.add_mul_div_left _ _ hp, Nat.div_eq_of_lt (by omega)]; omega
  rw [hd]
  omega
theorem add_car (V U k : Nat) : (word V k + word U k + car V U k) / 18446744073709551616 = car V U (k + 1) := by
  have hp := wpow_pos k
  have l1 := Nat.mod_lt V hp
  have l2 := Nat.mod_lt U hp
  have w1 := word_lt V k
  have w2 := word_lt U k
  have m1 : V % 18446744073709551616 ^ (k + 1) = V % 18446744073709551616 ^ k + 18446744073709551616 ^ k * word V k := by rw [Nat.pow_succ, Nat.mod_mul]; rfl
  have m2 : U % 18446744073709551616 ^ (k + 1) = U % 18446744073709551616 ^ k + 18446744073709551616 ^ k * word U k := by rw [Nat.pow_succ, Nat.mod_mul]; rfl
  unfold car
  rw [m1, m2, Nat.pow_succ]
  generalize 18446744073709551616 ^ k = P at *
  generalize V % P = a at *
  generalize U % P = b at *
  generalize word V k = v at *
  generalize word U k = u at *
  have key : ∀ s : Nat, (P * 18446744073709551616 ≤ a + P * v + (b + P * u)) ↔ (P * 18446744073709551616 ≤ (a + b) + P * (v + u)) := fun s => by rw [Nat.mul_add]; omega
  by_cases h : P ≤ a + b
  · rw [if_pos h]
    by_cases h2 : 18446744073709551616 ≤ v + u + 1
    · have : P * 18446744073709551616 ≤ P * (v + u + 1) := Nat.mul_le_mul_left _ h2
      rw [Nat.mul_add] at this
      rw [if_pos ((key 0).2 (by omega))]
      omega
    · have : P * (v + u + 2) ≤ P * 18446744073709551616 := Nat.mul_le_mul_left _ (by omega)
      rw [Nat.mul_add] at this
      rw [if_neg (fun h3 => by have := (key 0).1 h3; omega)]
      omega
  · rw [if_neg h]
    by_cases h2 : 18446744073709551616 ≤ v + u
    · have : P * 18446744073709551616 ≤ P * (v + u) := Nat.mul_le_mul_left _ h2
      rw [if_pos ((key 0).2 (by omega))]
      omega
    · have : P * (v + u + 1) ≤ P * 18446744073709551616 := Nat.mul_le_mul_left _ (by omega)
      rw [Nat.mul_add] at this
      rw [if_neg (fun h3 => by have := (key 0).1 h3; omega)]
      omega

set_option maxRecDepth 100000 in
set_option maxHeartbeats 2000000 in
theorem plus_any (b b' n m N c c' V U : Nat) (w : World) (hV : V < 18446744073709551616 ^ n) (hU : U < 18446744073709551616 ^ m) (hn : n ≤ 65536) (hm : m ≤ 65536) (hN : max n m = N) (hb : b < w.heap.size) (hb' : b' < w.heap.size) (h : Wds w b n V) (h' : Wds w b' m U) :
    Calls Tryz.prog 83 #[.slice (some ⟨b, 0, none⟩) n c, .slice (some ⟨b', 0, none⟩) m c'] w fun e w' => e = .returned (.slice (some ⟨w.heap.size, 0, none⟩) (N + 1) (N + 1)) ∧ Row w' w.heap.size (N + 1) (word (V + U)) ∧ Below w.heap.size w w' ∧ w'.heap.size = w.heap.size + 1 := by
  have HV := Lib.hid hV
  have HU := Lib.hid hU
  have H := Lib.hid h
  have H' := Lib.hid h'
  have hN' : max (n : Int) (m : Int) = (N : Int) := by omega
  have hNl : N ≤ 65536 := by omega
  clear h h' hV hU hN
  have hmk : ∀ W : World, (Instr.makeSlice 100 (.int .i64 ((N : Int) + 1)) (.int .i64 ((N : Int) + 1))).run Tryz.prog W = .ok (.slice (some ⟨W.heap.size, 0, none⟩) (N + 1) (N + 1)) (W.alloc (.cells (madeCells #[.int .u64 0] (N + 1)) 127)) := by
    intro W
    exact make_u64 (N + 1) (by omega) W
  go_enter Tryz.func83, Tryz.ntmps83
  go_wp2
  go_loopw [6, 17] (fun bo i wr => ∃ k : Nat, k ≤ N + 1 ∧ i = .int .i64 k ∧ bo = .int .u64 (car V U k : Int) ∧ Row wr w.heap.size (N + 1) (mix k (word (V + U)) (fun _ => 0)) ∧ Below w.heap.size w wr ∧ wr.heap.size = w.heap.size + 1) (fun _ i _ => N + 1 - (intOf i).toNat)
  case atStart =>
    refine ⟨0, Nat.zero_le _, rfl, by rw [car_zero]; rfl, (Row.of_rowIs (f := fun _ => 0) (World.rowIs_made w _ _ _)).congr (fun i _ => by simp [mix]), (Below.refl _ _).alloc (Nat.le_refl _) _, by simp⟩
  case round =>
    obtain ⟨k, hk, rfl, rfl, hrow, hbel, hsz⟩ := hrel
    have HR := Lib.hid hrow
    have HB := Lib.hid hbel
    have HS := Lib.hid hsz
    clear hrow hbel hsz hmk hN'
    by_cases hlt : k < N + 1
    · have hbo1 := car_le V U k
      have hcell := Row.cell HR.out (i := k) (by omega)
      have hfr := Row.frozen HR.out k
      have HW1 := Lib.hid (fun W (hW : Wds W b n V) => word_V b n c k V W HV.out hW)
      have HW2 := Lib.hid (fun W (hW : Wds W b' m U) => word_V b' m c' k U W HU.out hW)
      have hs := fun W => add64 (word V k) (word U k) (car V U k) hbo1 W
      rw [add_word, add_car] at hs
      have HX1 : Hid (Wds wr b n V) := fun j hj => (HB.out.cell (p := ⟨b, j, none⟩) hb).trans (H.out j hj)
      have HX2 : Hid (Wds wr b' m U) := fun j hj => (HB.out.cell (p := ⟨b', j, none⟩) hb').trans (H'.out j hj)
      go_wp2_with fail
      refine (HW1.out _ HX1.out).mono ?_
      rintro e w1 ⟨rfl, rfl⟩
      go_wp2_with fail
      refine (HW2.out _ HX2.out).mono ?_
      rintro e w1 ⟨rfl, rfl⟩
      go_wp2
      go_roundw
      case rel =>
        refine ⟨k + 1, by omega, by go_num, rfl, ?_, HB.out.setCell (Nat.le_refl _) _, ?_⟩
        · refine (HR.out.set k _ rfl).congr fun i _ => ?_
          by_cases e : i = k
          · rw [if_pos e, e]; simp [mix]
          · rw [if_neg e]
            have : (i < k + 1) = (i < k) := by apply propext; omega
            simp [mix, this]
        · have := HS.out; simpa [World.setCell] using this
      case measure => simp [intOf]; omega
    · obtain rfl : k = N + 1 := by omega
      go_wp2
      go_ret
      exact ⟨rfl, HR.out.congr (fun i hi => by simp [mix, hi]), HB.out, HS.out⟩

set_option maxHeartbeats 1000000 in
theorem add_ok (a b : ByteArray) (w : World) (ha : Short a) (hb : Short b) :
    Calls Tryz.prog 53 #[.string a, .string b] w (Ret w (shortV (bv a + bv b))) := by
  have hchk : chk (fun j => if j = 0 then a else b) 2 = 0 := chk_ok (fun j _ => by split <;> assumption)
  have HC := Lib.hid (check_any w.heap.size 2 2 (fun j => if j = 0 then a else b) (w.alloc (.cells #[.string a, .string b] 9)) (by omega) (two_cells w a b 9))
  rw [hchk] at HC
  have la := ha.2
  have lb := hb.2
  have HTa := Lib.hid (words_trim ha.1)
  have HTb := Lib.hid (words_trim hb.1)
  have HB0 := Lib.hid ((Below.refl w.heap.size w).alloc (Nat.le_refl _) (.cells #[.string a, .string b] 9))
  clear hchk ha hb
  obtain ⟨N, hN⟩ : ∃ N, max ((a.size + 7) / 8) ((b.size + 7) / 8) = N := ⟨_, rfl⟩
  have HN := Lib.hid hN
  have hNl : N ≤ 65535 := by omega
  have HSUM : Hid (bv a + bv b < 18446744073709551616 ^ (N + 1)) := by
    have h1 := Nat.lt_of_lt_of_le HTa.out.1 (Nat.pow_le_pow_right (n := 18446744073709551616) (by omega) (show (a.size + 7) / 8 ≤ N by omega))
    have h2 := Nat.lt_of_lt_of_le HTb.out.1 (Nat.pow_le_pow_right (n := 18446744073709551616) (by omega) (show (b.size + 7) / 8 ≤ N by omega))
    show _ < _
    rw [Nat.pow_succ]
    generalize 18446744073709551616 ^ N = P at *
    omega
  clear hN
  by_cases hsh : bv a + bv b < 256 ^ 256
  all_goals
    have HSH := Lib.hid hsh
    have hval : (if bv a + bv b < 256 ^ 256 then Value.tuple #[.string ⟨(benc (bv a + bv b)).toArray⟩, .int .i64 0] else .tuple #[.string ⟨#[]⟩, .int .i64 2]) = shortV (bv a + bv b) := rfl
    have HVAL := Lib.hid hval
    clear hsh hval
    go_enter Tryz.func53, Tryz.ntmps53
    go_wp2_with fail
    refine HC.out.mono ?_
    rintro e w1 ⟨rfl, rfl⟩
    go_wp2_with fail
    refine (words_any a _ (by omega)).mono ?_
    rintro e w1 ⟨rfl, hr1, hb1, hs1⟩
    rw [World.size_alloc] at hr1 hs1 ⊢
    have HR1 := Lib.hid hr1
    have HB1 := Lib.hid (HB0.out.trans (hb1.mono (by simp)))
    have h1 : w.heap.size + 1 < w1.heap.size := hr1.lt
    clear hr1 hb1 hs1
    go_wp2_with fail
    refine (words_any b _ (by omega)).mono ?_
    rintro e w2 ⟨rfl, hr2, hb2, hs2⟩
    have HR1' := Lib.hid (HR1.out.below hb2 h1)
    have HR2 := Lib.hid hr2
    have HB2 := Lib.hid (HB1.out.trans (hb2.mono (by omega)))
    have h2 : w1.heap.size < w2.heap.size := hr2.lt
    clear hr2 hb2 hs2
    go_wp2_with fail
    refine (plus_any (w.heap.size + 1) w1.heap.size ((a.size + 7) / 8) ((b.size + 7) / 8) N ((a.size + 7) / 8) ((b.size + 7) / 8) (bv a) (bv b) w2 HTa.out.1 HTb.out.1 (by omega) (by omega) HN.out (by omega) (by omega) HR1'.out.wds HR2.out.wds).mono ?_
    rintro e w3 ⟨rfl, hr3, hb3, hs3⟩
    have HB3 := Lib.hid (HB2.out.trans (hb3.mono (by omega)))
    have hsz := hb3.size
    have HX := Lib.hid (short_some w2.heap.size (N + 1) (N + 1) (bv a + bv b) w3 HSUM.out (by omega) hr3.lt hr3.wds)
    clear hb3 hr3 hs3
    go_wp2_with fail
    refine HX.out.mono ?_
    first | rw [if_pos HSH.out] at * | rw [if_neg HSH.out] at *
    rintro e w4 ⟨rfl, hb4⟩
    have HB4 := Lib.hid (HB3.out.trans (hb4.mono (by omega)))
    clear hb4
    go_wp2
    go_ret2
    exact ⟨by rw [← HVAL.out]; rfl, HB4.out⟩
end Go.Proofs.YtiohceaddojedaaGreatDoor
