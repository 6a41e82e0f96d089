/- Contracts of functions that the law reaches, and plain lemmas, texts Ea Eb Ec Ed Ee Ef Eg: no condition beyond those that each theorem names. -/
import Derived.Test.YtoolanjbmbcaiaaGreatDoorGd
import Derived.Laws.StructEq
import Derived.Test.YtoolanjbmbcaiaaGreatDoorGa
namespace Go.Proofs.YtoolanjbmbcaiaaGreatDoor
open Go.RowKit Bf

def nilS : Value := .slice none 0 0

theorem collect1 (f : Value) (w : World) : Calls Tryz.prog 182 #[.slice none 0 0, f] w fun e w' => e = .returned (.tuple #[.map (some w.heap.size), .bool false]) ∧ w.alloc (.map #[] 0) = w' := by
  have hmm := @run_makeMap Tryz.prog
  go_enter Tryz.func182, Tryz.ntmps182
  go_wp2
  refine wp_loop_rounds 1 ?_
  rw [rounds_succ]
  go_wp2
  go_ret2
  exact ⟨rfl, rfl⟩

theorem collect2 (f : Value) (w : World) : Calls Tryz.prog 184 #[.slice none 0 0, f] w fun e w' => e = .returned (.tuple #[.map (some w.heap.size), .bool false]) ∧ w.alloc (.map #[] 0) = w' := by
  have hmm := @run_makeMap Tryz.prog
  go_enter Tryz.func184, Tryz.ntmps184
  go_wp2
  refine wp_loop_rounds 1 ?_
  rw [rounds_succ]
  go_wp2
  go_ret2
  exact ⟨rfl, rfl⟩

theorem collect3 (f : Value) (w : World) : Calls Tryz.prog 186 #[.slice none 0 0, f] w fun e w' => e = .returned (.tuple #[.map (some w.heap.size), .bool false]) ∧ w.alloc (.map #[] 0) = w' := by
  have hmm := @run_makeMap Tryz.prog
  go_enter Tryz.func186, Tryz.ntmps186
  go_wp2
  refine wp_loop_rounds 1 ?_
  rw [rounds_succ]
  go_wp2
  go_ret2
  exact ⟨rfl, rfl⟩

theorem collect4 (f : Value) (w : World) : Calls Tryz.prog 188 #[.slice none 0 0, f] w fun e w' => e = .returned (.tuple #[.map (some w.heap.size), .bool false]) ∧ w.alloc (.map #[] 0) = w' := by
  have hmm := @run_makeMap Tryz.prog
  go_enter Tryz.func188, Tryz.ntmps188
  go_wp2
  refine wp_loop_rounds 1 ?_
  rw [rounds_succ]
  go_wp2
  go_ret2
  exact ⟨rfl, rfl⟩

theorem collect5 (f : Value) (w : World) : Calls Tryz.prog 190 #[.slice none 0 0, f] w fun e w' => e = .returned (.tuple #[.map (some w.heap.size), .bool false]) ∧ w.alloc (.map #[] 0) = w' := by
  have hmm := @run_makeMap Tryz.prog
  go_enter Tryz.func190, Tryz.ntmps190
  go_wp2
  refine wp_loop_rounds 1 ?_
  rw [rounds_succ]
  go_wp2
  go_ret2
  exact ⟨rfl, rfl⟩

theorem cloneItem (w : World) : Calls Tryz.prog 250 #[.slice none 0 0] w fun e w' => e = .returned (.slice none 0 0) ∧ w = w' := by
  have hq : ∀ W : World, (binOp .eql 45 (.slice none 0 0) (.slice none 0 0)).run Tryz.prog W = .ok (.bool true) W := fun W => by kernel_rfl
  go_enter Tryz.func250, Tryz.ntmps250
  go_wp2
  go_ret
  exact ⟨rfl, rfl⟩

theorem cloneMachine (w : World) : Calls Tryz.prog 251 #[.slice none 0 0] w fun e w' => e = .returned (.slice none 0 0) ∧ w = w' := by
  have hq : ∀ W : World, (binOp .eql 47 (.slice none 0 0) (.slice none 0 0)).run Tryz.prog W = .ok (.bool true) W := fun W => by kernel_rfl
  go_enter Tryz.func251, Tryz.ntmps251
  go_wp2
  go_ret
  exact ⟨rfl, rfl⟩

theorem cloneOption (w : World) : Calls Tryz.prog 252 #[.slice none 0 0] w fun e w' => e = .returned (.slice none 0 0) ∧ w = w' := by
  have hq : ∀ W : World, (binOp .eql 48 (.slice none 0 0) (.slice none 0 0)).run Tryz.prog W = .ok (.bool true) W := fun W => by kernel_rfl
  go_enter Tryz.func252, Tryz.ntmps252
  go_wp2
  go_ret
  exact ⟨rfl, rfl⟩

theorem cloneConds (w : World) : Calls Tryz.prog 253 #[.slice none 0 0] w fun e w' => e = .returned (.slice none 0 0) ∧ w = w' := by
  have hq : ∀ W : World, (binOp .eql 49 (.slice none 0 0) (.slice none 0 0)).run Tryz.prog W = .ok (.bool true) W := fun W => by kernel_rfl
  go_enter Tryz.func253, Tryz.ntmps253
  go_wp2
  go_ret
  exact ⟨rfl, rfl⟩

theorem cloneRecipe (w : World) : Calls Tryz.prog 256 #[.slice none 0 0] w fun e w' => e = .returned (.slice none 0 0) ∧ w = w' := by
  have hq : ∀ W : World, (binOp .eql 50 (.slice none 0 0) (.slice none 0 0)).run Tryz.prog W = .ok (.bool true) W := fun W => by kernel_rfl
  go_enter Tryz.func256, Tryz.ntmps256
  go_wp2
  go_ret
  exact ⟨rfl, rfl⟩

theorem cloneSwap (w : World) : Calls Tryz.prog 260 #[.slice none 0 0] w fun e w' => e = .returned (.slice none 0 0) ∧ w = w' := by
  have hq : ∀ W : World, (binOp .eql 51 (.slice none 0 0) (.slice none 0 0)).run Tryz.prog W = .ok (.bool true) W := fun W => by kernel_rfl
  go_enter Tryz.func260, Tryz.ntmps260
  go_wp2
  go_ret
  exact ⟨rfl, rfl⟩

theorem cloneStr (w : World) : Calls Tryz.prog 202 #[.slice none 0 0] w fun e w' => e = .returned (.slice none 0 0) ∧ w = w' := by
  have hq : ∀ W : World, (binOp .eql 46 (.slice none 0 0) (.slice none 0 0)).run Tryz.prog W = .ok (.bool true) W := fun W => by kernel_rfl
  go_enter Tryz.func202, Tryz.ntmps202
  go_wp2
  go_ret
  exact ⟨rfl, rfl⟩

theorem numberedItem (f : Value) (w : World) : Calls Tryz.prog 199 #[.slice none 0 0, f] w fun e w' => e = .returned (.slice none 0 0) ∧ w = w' := by
  go_enter Tryz.func199, Tryz.ntmps199
  go_wp2_with (go_at_call 250; refine (cloneItem _).mono ?_; rintro e w1 ⟨rfl, rfl⟩)
  refine wp_loop_rounds 1 ?_
  rw [rounds_succ]
  go_wp2
  go_ret
  exact ⟨rfl, rfl⟩

theorem numberedMachine (f : Value) (w : World) : Calls Tryz.prog 203 #[.slice none 0 0, f] w fun e w' => e = .returned (.slice none 0 0) ∧ w = w' := by
  go_enter Tryz.func203, Tryz.ntmps203
  go_wp2_with (go_at_call 251; refine (cloneMachine _).mono ?_; rintro e w1 ⟨rfl, rfl⟩)
  refine wp_loop_rounds 1 ?_
  rw [rounds_succ]
  go_wp2
  go_ret
  exact ⟨rfl, rfl⟩

theorem numberedOption (f : Value) (w : World) : Calls Tryz.prog 205 #[.slice none 0 0, f] w fun e w' => e = .returned (.slice none 0 0) ∧ w = w' := by
  go_enter Tryz.func205, Tryz.ntmps205
  go_wp2_with (go_at_call 252; refine (cloneOption _).mono ?_; rintro e w1 ⟨rfl, rfl⟩)
  refine wp_loop_rounds 1 ?_
  rw [rounds_succ]
  go_wp2
  go_ret
  exact ⟨rfl, rfl⟩

theorem numberedConds (f : Value) (w : World) : Calls Tryz.prog 207 #[.slice none 0 0, f] w fun e w' => e = .returned (.slice none 0 0) ∧ w = w' := by
  go_enter Tryz.func207, Tryz.ntmps207
  go_wp2_with (go_at_call 253; refine (cloneConds _).mono ?_; rintro e w1 ⟨rfl, rfl⟩)
  refine wp_loop_rounds 1 ?_
  rw [rounds_succ]
  go_wp2
  go_ret
  exact ⟨rfl, rfl⟩

theorem numberedRecipe (f : Value) (w : World) : Calls Tryz.prog 210 #[.slice none 0 0, f] w fun e w' => e = .returned (.slice none 0 0) ∧ w = w' := by
  go_enter Tryz.func210, Tryz.ntmps210
  go_wp2_with (go_at_call 256; refine (cloneRecipe _).mono ?_; rintro e w1 ⟨rfl, rfl⟩)
  refine wp_loop_rounds 1 ?_
  rw [rounds_succ]
  go_wp2
  go_ret
  exact ⟨rfl, rfl⟩

theorem numberedSwap (f : Value) (w : World) : Calls Tryz.prog 215 #[.slice none 0 0, f] w fun e w' => e = .returned (.slice none 0 0) ∧ w = w' := by
  go_enter Tryz.func215, Tryz.ntmps215
  go_wp2_with (go_at_call 260; refine (cloneSwap _).mono ?_; rintro e w1 ⟨rfl, rfl⟩)
  refine wp_loop_rounds 1 ?_
  rw [rounds_succ]
  go_wp2
  go_ret
  exact ⟨rfl, rfl⟩

theorem twins0 (w : World) : Calls Tryz.prog 193 #[.slice none 0 0] w fun e w' => e = .returned (.bool false) ∧ w = w' := by
  go_enter Tryz.func193, Tryz.ntmps193
  go_wp2
  refine wp_loop_rounds 1 ?_
  rw [rounds_succ]
  go_wp2
  go_ret
  exact ⟨rfl, rfl⟩

theorem equalUnit (w : World) : Calls Tryz.prog 119 #[.slice none 0 0, .slice none 0 0] w fun e w' => e = .returned (.bool true) ∧ w = w' := by
  go_enter Tryz.func119, Tryz.ntmps119
  go_wp2
  refine wp_loop_rounds 1 ?_
  rw [rounds_succ]
  go_wp2
  go_ret
  exact ⟨rfl, rfl⟩

theorem equalItem (w : World) : Calls Tryz.prog 120 #[.slice none 0 0, .slice none 0 0] w fun e w' => e = .returned (.bool true) ∧ w = w' := by
  go_enter Tryz.func120, Tryz.ntmps120
  go_wp2
  refine wp_loop_rounds 1 ?_
  rw [rounds_succ]
  go_wp2
  go_ret
  exact ⟨rfl, rfl⟩

theorem equalStr (w : World) : Calls Tryz.prog 121 #[.slice none 0 0, .slice none 0 0] w fun e w' => e = .returned (.bool true) ∧ w = w' := by
  go_enter Tryz.func121, Tryz.ntmps121
  go_wp2
  refine wp_loop_rounds 1 ?_
  rw [rounds_succ]
  go_wp2
  go_ret
  exact ⟨rfl, rfl⟩

theorem equalMachine (w : World) : Calls Tryz.prog 122 #[.slice none 0 0, .slice none 0 0] w fun e w' => e = .returned (.bool true) ∧ w = w' := by
  go_enter Tryz.func122, Tryz.ntmps122
  go_wp2
  refine wp_loop_rounds 1 ?_
  rw [rounds_succ]
  go_wp2
  go_ret
  exact ⟨rfl, rfl⟩

theorem equalSwap (w : World) : Calls Tryz.prog 129 #[.slice none 0 0, .slice none 0 0] w fun e w' => e = .returned (.bool true) ∧ w = w' := by
  go_enter Tryz.func129, Tryz.ntmps129
  go_wp2
  refine wp_loop_rounds 1 ?_
  rw [rounds_succ]
  go_wp2
  go_ret
  exact ⟨rfl, rfl⟩

theorem equalInt (A A' : Option Addr) (c c' : Nat) (w : World) : Calls Tryz.prog 87 #[.slice A 0 c, .slice A' 0 c'] w fun e w' => e = .returned (.bool true) ∧ w = w' := by
  go_enter Tryz.func87, Tryz.ntmps87
  go_wp2
  refine wp_loop_rounds 1 ?_
  rw [rounds_succ]
  go_wp2
  go_ret
  exact ⟨rfl, rfl⟩

theorem equalfOption (f : Value) (w : World) : Calls Tryz.prog 123 #[.slice none 0 0, .slice none 0 0, f] w fun e w' => e = .returned (.bool true) ∧ w = w' := by
  go_enter Tryz.func123, Tryz.ntmps123
  go_wp2
  refine wp_loop_rounds 1 ?_
  rw [rounds_succ]
  go_wp2
  go_ret
  exact ⟨rfl, rfl⟩

theorem equalfConds (f : Value) (w : World) : Calls Tryz.prog 125 #[.slice none 0 0, .slice none 0 0, f] w fun e w' => e = .returned (.bool true) ∧ w = w' := by
  go_enter Tryz.func125, Tryz.ntmps125
  go_wp2
  refine wp_loop_rounds 1 ?_
  rw [rounds_succ]
  go_wp2
  go_ret
  exact ⟨rfl, rfl⟩

theorem equalfRecipe (f : Value) (w : World) : Calls Tryz.prog 127 #[.slice none 0 0, .slice none 0 0, f] w fun e w' => e = .returned (.bool true) ∧ w = w' := by
  go_enter Tryz.func127, Tryz.ntmps127
  go_wp2
  refine wp_loop_rounds 1 ?_
  rw [rounds_succ]
  go_wp2
  go_ret
  exact ⟨rfl, rfl⟩

theorem equalfCodes (f : Value) (w : World) : Calls Tryz.prog 88 #[.slice none 0 0, .slice none 0 0, f] w fun e w' => e = .returned (.bool true) ∧ w = w' := by
  go_enter Tryz.func88, Tryz.ntmps88
  go_wp2
  refine wp_loop_rounds 1 ?_
  rw [rounds_succ]
  go_wp2
  go_ret
  exact ⟨rfl, rfl⟩


theorem index5 (b off : Nat) (w : World) (h : ∀ j, j < 5 → w.cell? ⟨b, off + j, none⟩ = some (.bool false)) : Calls Tryz.prog 247 #[.slice (some ⟨b, off, none⟩) 5 5, .bool true] w fun e w' => e = .returned (.int .i64 (-1)) ∧ w = w' := by
  have H := Lib.hid h
  clear h
  go_enter Tryz.func247, Tryz.ntmps247
  go_wp2
  go_loop [8] (fun i => ∃ k : Nat, k ≤ 5 ∧ i = .int .i64 k) (fun i => 5 - (intOf i).toNat)
  case atStart => exact ⟨0, by omega, rfl⟩
  case round =>
    obtain ⟨k, hk, rfl⟩ := hrel
    by_cases hlt : k < 5
    · have hc := H.out k hlt
      go_wp2
      go_round
      case rel => exact ⟨k + 1, by omega, by go_num⟩
      case measure => simp [intOf]; omega
    · obtain rfl : k = 5 := by omega
      go_wp2
      go_ret
      exact ⟨rfl, rfl⟩
theorem contains5 (b off : Nat) (w : World) (h : ∀ j, j < 5 → w.cell? ⟨b, off + j, none⟩ = some (.bool false)) : Calls Tryz.prog 192 #[.slice (some ⟨b, off, none⟩) 5 5, .bool true] w fun e w' => e = .returned (.bool false) ∧ w = w' := by
  have H := Lib.hid (index5 b off w h)
  clear h
  go_enter Tryz.func192, Tryz.ntmps192
  go_wp2_with (go_at_call 247; refine H.out.mono ?_; rintro e w1 ⟨rfl, rfl⟩)
  go_ret
  exact ⟨rfl, rfl⟩
end Go.Proofs.YtoolanjbmbcaiaaGreatDoor
namespace Go.Proofs.YtoolanjbmbcaiaaGreatDoor
open Go.RowKit Bf

/-- The empty source. -/
def src0 : Value := .agg #[.slice none 0 0, .slice none 0 0, .slice none 0 0, .slice none 0 0, .slice none 0 0, .slice none 0 0, .slice none 0 0, .slice none 0 0]

set_option maxRecDepth 100000 in
set_option maxHeartbeats 2000000 in
theorem gather0 (w : World) : Calls Tryz.prog 147 #[.agg #[.slice none 0 0, .slice none 0 0, .slice none 0 0, .slice none 0 0, .slice none 0 0, .slice none 0 0, .slice none 0 0, .slice none 0 0]] w
    fun e w' => ∃ a b c d g, e = .returned (.tuple #[.agg #[.map (some a), .map (some b), .map (some c), .map (some d), .map (some g), .slice none 0 0], .bool false]) ∧ Below w.heap.size w w' := by
  go_enter Tryz.func147, Tryz.ntmps147
  go_wp2_with (first | (go_at_call 182; refine (collect1 _ _).mono ?_; rintro e w1 ⟨rfl, rfl⟩) | (go_at_call 184; refine (collect2 _ _).mono ?_; rintro e w1 ⟨rfl, rfl⟩) | (go_at_call 186; refine (collect3 _ _).mono ?_; rintro e w1 ⟨rfl, rfl⟩) | (go_at_call 188; refine (collect4 _ _).mono ?_; rintro e w1 ⟨rfl, rfl⟩) | (go_at_call 190; refine (collect5 _ _).mono ?_; rintro e w1 ⟨rfl, rfl⟩))
  refine (contains5 _ 0 _ ?_).mono ?_
  · intro j hj
    have h5 : j = 0 ∨ j = 1 ∨ j = 2 ∨ j = 3 ∨ j = 4 := by omega
    rcases h5 with rfl | rfl | rfl | rfl | rfl <;> simp [go_sem]
  rintro e w1 ⟨rfl, rfl⟩
  go_wp2
  refine wp_loop_rounds 1 ?_
  rw [rounds_succ]
  go_wp2
  refine bodyPost_ret (v := .tuple #[.agg #[.map (some (w.heap.size + 1 + 1 + 1)), .map (some (w.heap.size + 1 + 1 + 1 + 1)), .map (some (w.heap.size + 1 + 1 + 1 + 1 + 1)), .map (some (w.heap.size + 1 + 1 + 1 + 1 + 1 + 1)), .map (some (w.heap.size + 1 + 1 + 1 + 1 + 1 + 1 + 1)), .slice none 0 0], .bool false]) (by simp [results, Tryz.results147, go_sem]) rfl ⟨_, _, _, _, _, rfl, ?_⟩
  repeat' (first | exact Below.refl _ _ | refine Below.alloc ?_ ?_ _ | refine Below.setCell ?_ ?_ _ | refine Below.drew ?_)
  all_goals first | (simp; done) | (simp; omega) | omega

set_option maxRecDepth 100000 in
set_option maxHeartbeats 2000000 in
theorem source0 (a b c d g : Nat) (w : World) : Calls Tryz.prog 150 #[.agg #[.map (some a), .map (some b), .map (some c), .map (some d), .map (some g), .slice none 0 0], .agg #[.slice none 0 0, .slice none 0 0, .slice none 0 0, .slice none 0 0, .slice none 0 0, .slice none 0 0, .slice none 0 0, .slice none 0 0]] w (Ret w (.agg #[.slice none 0 0, .slice none 0 0, .slice none 0 0, .slice none 0 0, .slice none 0 0, .slice none 0 0, .slice none 0 0, .slice none 0 0])) := by
  have hmf : ∀ (fn : Fn) (first cap : Array Value) (w : World), (Instr.makeFunc fn first cap).run Tryz.prog w = .ok (.func fn first cap) w := fun _ _ _ _ => rfl
  go_enter Tryz.func150, Tryz.ntmps150
  go_wp2_with (first | (go_at_call 199; refine (numberedItem _ _).mono ?_; rintro e w1 ⟨rfl, rfl⟩) | (go_at_call 203; refine (numberedMachine _ _).mono ?_; rintro e w1 ⟨rfl, rfl⟩) | (go_at_call 205; refine (numberedOption _ _).mono ?_; rintro e w1 ⟨rfl, rfl⟩) | (go_at_call 207; refine (numberedConds _ _).mono ?_; rintro e w1 ⟨rfl, rfl⟩) | (go_at_call 210; refine (numberedRecipe _ _).mono ?_; rintro e w1 ⟨rfl, rfl⟩) | (go_at_call 215; refine (numberedSwap _ _).mono ?_; rintro e w1 ⟨rfl, rfl⟩) | (go_at_call 202; refine (cloneStr _).mono ?_; rintro e w1 ⟨rfl, rfl⟩))
  refine bodyPost_ret (v := .agg #[.slice none 0 0, .slice none 0 0, .slice none 0 0, .slice none 0 0, .slice none 0 0, .slice none 0 0, .slice none 0 0, .slice none 0 0]) (by simp [results, Tryz.results150, go_sem]) rfl ⟨rfl, ?_⟩
  repeat' (first | exact Below.refl _ _ | refine Below.alloc ?_ ?_ _ | refine Below.setCell ?_ ?_ _ | refine Below.drew ?_)
  all_goals first | (simp; done) | (simp; omega) | omega

theorem resolve_idle (br be : Nat) (w : World) :
    CallsD Tryz.prog 149 #[.pointer (some ⟨br, 0, none⟩), .pointer (some ⟨be, 0, none⟩)] .returning w fun e u' w' => e = .returned (.tuple #[]) ∧ u' = .returning ∧ w' = w := by
  refine callsD_of_wpS Tryz.func149 rfl fun c₀ cs hu => ?_
  apply wpS_seq
  apply wpS_region
  simp [wpOpsS, go_sem, recoverD, hu, Tryz.ntmps149, Exit.thenS]
  refine wpS_of_wp ?_
  simp only [Array.replicate_succ, Array.replicate_zero, List.push_toArray, List.append_toArray, List.nil_append, List.cons_append, List.setIfInBounds_toArray, List.set_cons_zero, List.set_cons_succ]
  go_wp2
  cases c₀
  simp_all [bodyPostS, results, Tryz.results149]

set_option maxRecDepth 100000 in
set_option maxHeartbeats 2000000 in
theorem unitsResolve0 (w : World) (hT : Tab w) : Calls Tryz.prog 148 #[.slice none 0 0] w (Ret w (.tuple #[.slice none 0 0, .int .i64 0])) := by
  have hmf : ∀ (fn : Fn) (first cap : Array Value) (w : World), (Instr.makeFunc fn first cap).run Tryz.prog w = .ok (.func fn first cap) w := fun _ _ _ _ => rfl
  have HN := Lib.hid (fun W (hW : Tab W) => show Calls Tryz.prog 17 #[.int .i64 1, .int .i64 1] W (Ret W (.tuple #[.agg #[.bool false, .string (bs 1), .string (bs 1)], .int .i64 0])) from new_ok 1 1 W (by omega) (by omega) (by omega) hW)
  have HT := Lib.hid hT
  clear hT
  go_enter Tryz.func148, Tryz.ntmps148
  go_wp2_with (go_at_call 193; refine (twins0 _).mono ?_; rintro e w1 ⟨rfl, rfl⟩)
  refine (HN.out _ (HT.out.below ((Below.refl w.heap.size w).alloc (Nat.le_refl _) _))).mono ?_
  rintro e w1 ⟨rfl, hb1⟩
  obtain ⟨hc1, hf1⟩ := bcell hb1
  have hy1 : w.heap.size < w1.heap.size := by have := hb1.size; simp at this; omega
  have hy2 : ¬ w1.heap.size = w.heap.size := by omega
  have hy3 : ¬ w.heap.size = w1.heap.size := by omega
  have HB1 := Lib.hid (((Below.refl w.heap.size w).alloc (Nat.le_refl _) _).trans (hb1.mono (by simp)))
  have q0 : w1.cell? ⟨w.heap.size, 0, none⟩ = some (.slice none 0 0) := by rw [hc1 _ _ (by simp)]; simp [go_sem]
  clear hb1
  go_wp2
  refine wp_loop_rounds 1 ?_
  rw [rounds_succ]
  go_wp2
  refine bodyPost_ret (v := .tuple #[.slice none 0 0, .int .i64 0]) (by simp [results, Tryz.results148, go_sem, q0, hy1]) rfl ⟨rfl, ?_⟩
  repeat' (first | exact Below.refl _ _ | exact HB1.out | refine Below.alloc ?_ ?_ _ | refine Below.setCell ?_ ?_ _ | refine Below.drew ?_)
  all_goals first | (simp; done) | (simp; omega) | omega

theorem unitsCheck0 (w : World) (hT : Tab w) : Calls Tryz.prog 151 #[.slice none 0 0] w (Ret w (.int .i64 0)) := by
  have hnot : ∀ (x : Bool) (w : World), (Op.unary .not (.bool x)).run Tryz.prog w = .ok (.bool (!x)) w := fun _ _ => rfl
  have HT := Lib.hid hT
  clear hT
  go_enter Tryz.func151, Tryz.ntmps151
  go_wp2_with fail
  refine (unitsResolve0 _ HT.out).mono ?_
  rintro e w1 ⟨rfl, hb1⟩
  have HB1 := Lib.hid hb1
  clear hb1
  go_wp2_with (go_at_call 119; refine (equalUnit _).mono ?_; rintro e w1 ⟨rfl, rfl⟩)
  go_ret
  exact ⟨rfl, HB1.out⟩

set_option maxRecDepth 100000 in
set_option maxHeartbeats 2000000 in
theorem same0 (w : World) : Calls Tryz.prog 86 #[.agg #[.slice none 0 0, .slice none 0 0, .slice none 0 0, .slice none 0 0, .slice none 0 0, .slice none 0 0, .slice none 0 0, .slice none 0 0], .agg #[.slice none 0 0, .slice none 0 0, .slice none 0 0, .slice none 0 0, .slice none 0 0, .slice none 0 0, .slice none 0 0, .slice none 0 0]] w (Ret w (.bool true)) := by
  go_enter Tryz.func86, Tryz.ntmps86
  go_wp2_with (first | (go_at_call 119; refine (equalUnit _).mono ?_; rintro e w1 ⟨rfl, rfl⟩) | (go_at_call 120; refine (equalItem _).mono ?_; rintro e w1 ⟨rfl, rfl⟩) | (go_at_call 121; refine (equalStr _).mono ?_; rintro e w1 ⟨rfl, rfl⟩) | (go_at_call 122; refine (equalMachine _).mono ?_; rintro e w1 ⟨rfl, rfl⟩) | (go_at_call 129; refine (equalSwap _).mono ?_; rintro e w1 ⟨rfl, rfl⟩) | (go_at_call 123; refine (equalfOption _ _).mono ?_; rintro e w1 ⟨rfl, rfl⟩) | (go_at_call 125; refine (equalfConds _ _).mono ?_; rintro e w1 ⟨rfl, rfl⟩) | (go_at_call 127; refine (equalfRecipe _ _).mono ?_; rintro e w1 ⟨rfl, rfl⟩))
  go_ret
  refine ⟨rfl, ?_⟩
  repeat' (first | exact Below.refl _ _ | refine Below.alloc ?_ ?_ _ | refine Below.setCell ?_ ?_ _ | refine Below.drew ?_)
  all_goals first | (simp; done) | (simp; omega) | omega

theorem Blk.same {w : World} {b i : Nat} {l : List Value} {t : TypeId} {v : Value} (h : Blk w b l t) (hv : l[i]? = some v) : Blk (w.setCell ⟨b, i, none⟩ v) b l t := by
  have e : l.set i v = l := by
    apply List.ext_getElem?
    intro j
    rw [List.getElem?_set]
    by_cases hij : i = j
    · subst hij
      have hl := (List.getElem?_eq_some_iff.1 hv).1
      rw [if_pos rfl, if_pos hl, hv]
    · simp [hij]
  have := h.set i v
  rwa [e] at this
theorem resolve_end (w W : World) (tmps : Array Value) (h2 : tmps.getD 2 undef = .pointer (some ⟨w.heap.size + 1, 0, none⟩)) (h3 : tmps.getD 3 undef = .pointer (some ⟨w.heap.size + 1 + 1, 0, none⟩)) (k1 : Blk W (w.heap.size + 1) [.slice none 0 0, .slice none 0 0, .slice none 0 0, .slice none 0 0, .slice none 0 0, .slice none 0 0, .slice none 0 0, .slice none 0 0] 53) (k2 : Blk W (w.heap.size + 1 + 1) [.int .i64 0] 31) (hb : Below w.heap.size w W) :
    ∃ v, (results Tryz.f106 tmps).run Tryz.prog W = .ok v W ∧ Ret w (.tuple #[.agg #[.slice none 0 0, .slice none 0 0, .slice none 0 0, .slice none 0 0, .slice none 0 0, .slice none 0 0, .slice none 0 0, .slice none 0 0], .int .i64 0]) (.returned v) W := by
  rw [Array.getD_eq_getD_getElem?] at h2 h3
  have r0 := (k1.at 0 _ rfl).1
  have r1 := (k1.at 1 _ rfl).1
  have r2 := (k1.at 2 _ rfl).1
  have r3 := (k1.at 3 _ rfl).1
  have r4 := (k1.at 4 _ rfl).1
  have r5 := (k1.at 5 _ rfl).1
  have r6 := (k1.at 6 _ rfl).1
  have r7 := (k1.at 7 _ rfl).1
  have r8 := (k2.at 0 _ rfl).1
  exact ⟨_, by simp [results, Tryz.results106, go_sem, h2, h3, r0, r1, r2, r3, r4, r5, r6, r7, r8], rfl, hb⟩

set_option maxRecDepth 100000 in
set_option maxHeartbeats 2000000 in
theorem namesResolve0 (w : World) (hT : Tab w) : Calls Tryz.prog 106 #[.agg #[.slice none 0 0, .slice none 0 0, .slice none 0 0, .slice none 0 0, .slice none 0 0, .slice none 0 0, .slice none 0 0, .slice none 0 0]] w (Ret w (.tuple #[.agg #[.slice none 0 0, .slice none 0 0, .slice none 0 0, .slice none 0 0, .slice none 0 0, .slice none 0 0, .slice none 0 0, .slice none 0 0], .int .i64 0])) := by
  have hmf : ∀ (fn : Fn) (first cap : Array Value) (w : World), (Instr.makeFunc fn first cap).run Tryz.prog w = .ok (.func fn first cap) w := fun _ _ _ _ => rfl
  have HT := Lib.hid hT
  clear hT
  go_enter_defers Tryz.func106, Tryz.ntmps106
  go_wp2_with fail
  refine (gather0 _).mono ?_
  rintro e w1 ⟨a, b, c, d, g, rfl, hb1⟩
  obtain ⟨hc1, hf1⟩ := bcell hb1
  have hz1 : w.heap.size + 2 < w1.heap.size := by have := hb1.size; simp at this; omega
  have HB1 := Lib.hid (((((Below.refl w.heap.size w).alloc (Nat.le_refl _) _).alloc (by simp) _).alloc (by simp; omega) _).trans (hb1.mono (by simp; omega)))
  have K0 : Hid (Blk w1 w.heap.size [.slice none 0 0, .slice none 0 0, .slice none 0 0, .slice none 0 0, .slice none 0 0, .slice none 0 0, .slice none 0 0, .slice none 0 0] 53) := ((Blk.new w _ _).alloc _ |>.alloc _).below hb1 (by simp; omega)
  have K1 : Hid (Blk w1 (w.heap.size + 1) [.slice none 0 0, .slice none 0 0, .slice none 0 0, .slice none 0 0, .slice none 0 0, .slice none 0 0, .slice none 0 0, .slice none 0 0] 53) := by
    have := (Blk.new (w.alloc (.cells #[.slice none 0 0, .slice none 0 0, .slice none 0 0, .slice none 0 0, .slice none 0 0, .slice none 0 0, .slice none 0 0, .slice none 0 0] 53)) [.slice none 0 0, .slice none 0 0, .slice none 0 0, .slice none 0 0, .slice none 0 0, .slice none 0 0, .slice none 0 0, .slice none 0 0] 53).alloc (.cells #[.int .i64 0] 31)
    rw [World.size_alloc] at this
    exact this.below hb1 (by simp)
  have K2 : Hid (Blk w1 (w.heap.size + 1 + 1) [.int .i64 0] 31) := by
    have := Blk.new ((w.alloc (.cells #[.slice none 0 0, .slice none 0 0, .slice none 0 0, .slice none 0 0, .slice none 0 0, .slice none 0 0, .slice none 0 0, .slice none 0 0] 53)).alloc (.cells #[.slice none 0 0, .slice none 0 0, .slice none 0 0, .slice none 0 0, .slice none 0 0, .slice none 0 0, .slice none 0 0, .slice none 0 0] 53)) [.int .i64 0] 31
    rw [World.size_alloc, World.size_alloc] at this
    exact this.below hb1 (by simp)
  clear hb1 hc1 hf1
  obtain ⟨q00, _⟩ := K0.out.at 0 _ rfl
  have hlt0 : w.heap.size < w1.heap.size := by omega
  have hlt1 : w.heap.size + 1 < w1.heap.size := by omega
  have hlt2 : w.heap.size + 1 + 1 < w1.heap.size := by omega
  go_wp2_with fail
  refine (unitsResolve0 _ (HT.out.below (HB1.out.alloc HB1.out.size _))).mono ?_
  rintro e w2 ⟨rfl, hb2⟩
  have HB2 := Lib.hid ((HB1.out.alloc HB1.out.size _).trans (hb2.mono (by have := HB1.out.size; simp; omega)))
  have hs2 := hb2.size
  rw [World.size_alloc] at hs2
  have L0 := Lib.hid ((K0.out.alloc (.cells #[.map (some a), .map (some b), .map (some c), .map (some d), .map (some g), .slice none 0 0] 213)).below hb2 (by simp; omega))
  have L1 := Lib.hid ((K1.out.alloc (.cells #[.map (some a), .map (some b), .map (some c), .map (some d), .map (some g), .slice none 0 0] 213)).below hb2 (by simp; omega))
  have L2 := Lib.hid ((K2.out.alloc (.cells #[.map (some a), .map (some b), .map (some c), .map (some d), .map (some g), .slice none 0 0] 213)).below hb2 (by simp; omega))
  have L3 := Lib.hid ((Blk.new w1 [.map (some a), .map (some b), .map (some c), .map (some d), .map (some g), .slice none 0 0] 213).below hb2 (by simp))
  clear hb2 q00
  obtain ⟨p00, _⟩ := L0.out.at 0 _ rfl
  obtain ⟨p01, _⟩ := L0.out.at 1 _ rfl
  obtain ⟨p02, _⟩ := L0.out.at 2 _ rfl
  obtain ⟨p03, _⟩ := L0.out.at 3 _ rfl
  obtain ⟨p04, _⟩ := L0.out.at 4 _ rfl
  obtain ⟨p05, _⟩ := L0.out.at 5 _ rfl
  obtain ⟨p06, _⟩ := L0.out.at 6 _ rfl
  obtain ⟨p07, _⟩ := L0.out.at 7 _ rfl
  obtain ⟨p10, f10⟩ := L1.out.at 0 _ rfl
  obtain ⟨p11, f11⟩ := L1.out.at 1 _ rfl
  obtain ⟨p12, f12⟩ := L1.out.at 2 _ rfl
  obtain ⟨p13, f13⟩ := L1.out.at 3 _ rfl
  obtain ⟨p14, f14⟩ := L1.out.at 4 _ rfl
  obtain ⟨p15, f15⟩ := L1.out.at 5 _ rfl
  obtain ⟨p16, f16⟩ := L1.out.at 6 _ rfl
  obtain ⟨p17, f17⟩ := L1.out.at 7 _ rfl
  obtain ⟨p30, _⟩ := L3.out.at 0 _ rfl
  obtain ⟨p31, _⟩ := L3.out.at 1 _ rfl
  obtain ⟨p32, _⟩ := L3.out.at 2 _ rfl
  obtain ⟨p33, _⟩ := L3.out.at 3 _ rfl
  obtain ⟨p34, _⟩ := L3.out.at 4 _ rfl
  obtain ⟨p35, _⟩ := L3.out.at 5 _ rfl
  obtain ⟨p2, f2⟩ := L2.out.at 0 _ rfl
  have d1 : ¬ w.heap.size = w.heap.size + 1 + 1 := by omega
  have d2 : ¬ w1.heap.size = w.heap.size + 1 + 1 := by omega
  have d3 : ¬ w.heap.size + 1 + 1 = w1.heap.size := by omega
  have d4 : ¬ w.heap.size + 1 + 1 = w.heap.size := by omega
  have d5 : ¬ w.heap.size + 1 + 1 = w.heap.size + 1 := by omega
  have d6 : ¬ w.heap.size + 1 = w.heap.size + 1 + 1 := by omega
  go_wp2_with fail
  refine (source0 a b c d g _).mono ?_
  rintro e w3 ⟨rfl, hb3⟩
  have HB3 := Lib.hid ((HB2.out.setCell (p := ⟨w.heap.size + 1 + 1, 0, none⟩) (by simp; omega) _).trans (hb3.mono (by have := HB2.out.size; simp [World.setCell]; omega)))
  have M1 := Lib.hid ((L1.out.other (c := w.heap.size + 1 + 1) (i := 0) (by omega) (.int .i64 0)).below hb3 (by simp [World.setCell]; omega))
  have M2 := Lib.hid ((L2.out.set 0 (.int .i64 0)).below hb3 (by simp [World.setCell]; omega))
  clear hb3 p00 p01 p02 p03 p04 p05 p06 p07 p10 f10 p11 f11 p12 f12 p13 f13 p14 f14 p15 f15 p16 f16 p17 f17 p30 p31 p32 p33 p34 p35 p2 f2
  obtain ⟨r10, g10⟩ := M1.out.at 0 _ rfl
  obtain ⟨r11, g11⟩ := M1.out.at 1 _ rfl
  obtain ⟨r12, g12⟩ := M1.out.at 2 _ rfl
  obtain ⟨r13, g13⟩ := M1.out.at 3 _ rfl
  obtain ⟨r14, g14⟩ := M1.out.at 4 _ rfl
  obtain ⟨r15, g15⟩ := M1.out.at 5 _ rfl
  obtain ⟨r16, g16⟩ := M1.out.at 6 _ rfl
  obtain ⟨r17, g17⟩ := M1.out.at 7 _ rfl
  obtain ⟨r2, g2⟩ := M2.out.at 0 _ rfl
  go_wp2
  refine leaves_cons (f := 149) (args := #[.pointer (some ⟨w.heap.size + 1, 0, none⟩), .pointer (some ⟨w.heap.size + 1 + 1, 0, none⟩)]) (by simp) (by simp [go_sem]) ?_
  refine (resolve_idle _ _ _).mono ?_
  rintro e u' w'' ⟨rfl, rfl, rfl⟩
  refine resolve_end w _ _ rfl rfl ?_ ?_ ?_
  · repeat' (first | with_reducible exact M1.out | with_reducible refine Blk.same ?_ ?_ | with_reducible refine Blk.other ?_ ?_ _)
    all_goals first | rfl | omega | exact M2.out
  · repeat' (first | with_reducible exact M2.out | with_reducible refine Blk.same ?_ ?_ | with_reducible refine Blk.other ?_ ?_ _)
    all_goals first | rfl | omega | exact M2.out
  · repeat' (first | with_reducible exact HB3.out | with_reducible refine Below.setCell ?_ ?_ _)
    all_goals first | exact Nat.le_succ _ | exact Nat.le_trans (Nat.le_succ _) (Nat.le_succ _)
end Go.Proofs.YtoolanjbmbcaiaaGreatDoor
namespace Go.Proofs.YtoolanjbmbcaiaaGreatDoor
open Go.RowKit Bf

set_option maxRecDepth 100000 in
set_option maxHeartbeats 4000000 in
theorem within0 (w : World) : Calls Tryz.prog 152 #[.agg #[.slice none 0 0, .slice none 0 0, .slice none 0 0, .slice none 0 0, .slice none 0 0, .slice none 0 0, .slice none 0 0, .slice none 0 0]] w (Ret w (.bool true)) := by
  have i0 : ∀ W : World, (Instr.index 305 (.agg #[.int .i64 0, .int .i64 32, .int .i64 0, .int .i64 8, .int .i64 0, .int .i64 16, .int .i64 0, .int .i64 6, .int .i64 0, .int .i64 4, .int .i64 0, .int .i64 16, .int .i64 0, .int .i64 64, .int .i64 0, .int .i64 8, .int .i64 0, .int .i64 8, .int .i64 0, .int .i64 64]) (.int .i64 0)).run Tryz.prog W = .ok (.agg #[.int .i64 0, .int .i64 32]) W := fun W => by kernel_rfl
  have i1 : ∀ W : World, (Instr.index 305 (.agg #[.int .i64 0, .int .i64 32, .int .i64 0, .int .i64 8, .int .i64 0, .int .i64 16, .int .i64 0, .int .i64 6, .int .i64 0, .int .i64 4, .int .i64 0, .int .i64 16, .int .i64 0, .int .i64 64, .int .i64 0, .int .i64 8, .int .i64 0, .int .i64 8, .int .i64 0, .int .i64 64]) (.int .i64 1)).run Tryz.prog W = .ok (.agg #[.int .i64 0, .int .i64 8]) W := fun W => by kernel_rfl
  have i2 : ∀ W : World, (Instr.index 305 (.agg #[.int .i64 0, .int .i64 32, .int .i64 0, .int .i64 8, .int .i64 0, .int .i64 16, .int .i64 0, .int .i64 6, .int .i64 0, .int .i64 4, .int .i64 0, .int .i64 16, .int .i64 0, .int .i64 64, .int .i64 0, .int .i64 8, .int .i64 0, .int .i64 8, .int .i64 0, .int .i64 64]) (.int .i64 2)).run Tryz.prog W = .ok (.agg #[.int .i64 0, .int .i64 16]) W := fun W => by kernel_rfl
  have i3 : ∀ W : World, (Instr.index 305 (.agg #[.int .i64 0, .int .i64 32, .int .i64 0, .int .i64 8, .int .i64 0, .int .i64 16, .int .i64 0, .int .i64 6, .int .i64 0, .int .i64 4, .int .i64 0, .int .i64 16, .int .i64 0, .int .i64 64, .int .i64 0, .int .i64 8, .int .i64 0, .int .i64 8, .int .i64 0, .int .i64 64]) (.int .i64 3)).run Tryz.prog W = .ok (.agg #[.int .i64 0, .int .i64 6]) W := fun W => by kernel_rfl
  have i4 : ∀ W : World, (Instr.index 305 (.agg #[.int .i64 0, .int .i64 32, .int .i64 0, .int .i64 8, .int .i64 0, .int .i64 16, .int .i64 0, .int .i64 6, .int .i64 0, .int .i64 4, .int .i64 0, .int .i64 16, .int .i64 0, .int .i64 64, .int .i64 0, .int .i64 8, .int .i64 0, .int .i64 8, .int .i64 0, .int .i64 64]) (.int .i64 4)).run Tryz.prog W = .ok (.agg #[.int .i64 0, .int .i64 4]) W := fun W => by kernel_rfl
  have i5 : ∀ W : World, (Instr.index 305 (.agg #[.int .i64 0, .int .i64 32, .int .i64 0, .int .i64 8, .int .i64 0, .int .i64 16, .int .i64 0, .int .i64 6, .int .i64 0, .int .i64 4, .int .i64 0, .int .i64 16, .int .i64 0, .int .i64 64, .int .i64 0, .int .i64 8, .int .i64 0, .int .i64 8, .int .i64 0, .int .i64 64]) (.int .i64 5)).run Tryz.prog W = .ok (.agg #[.int .i64 0, .int .i64 16]) W := fun W => by kernel_rfl
  have i6 : ∀ W : World, (Instr.index 305 (.agg #[.int .i64 0, .int .i64 32, .int .i64 0, .int .i64 8, .int .i64 0, .int .i64 16, .int .i64 0, .int .i64 6, .int .i64 0, .int .i64 4, .int .i64 0, .int .i64 16, .int .i64 0, .int .i64 64, .int .i64 0, .int .i64 8, .int .i64 0, .int .i64 8, .int .i64 0, .int .i64 64]) (.int .i64 6)).run Tryz.prog W = .ok (.agg #[.int .i64 0, .int .i64 64]) W := fun W => by kernel_rfl
  have i7 : ∀ W : World, (Instr.index 305 (.agg #[.int .i64 0, .int .i64 32, .int .i64 0, .int .i64 8, .int .i64 0, .int .i64 16, .int .i64 0, .int .i64 6, .int .i64 0, .int .i64 4, .int .i64 0, .int .i64 16, .int .i64 0, .int .i64 64, .int .i64 0, .int .i64 8, .int .i64 0, .int .i64 8, .int .i64 0, .int .i64 64]) (.int .i64 7)).run Tryz.prog W = .ok (.agg #[.int .i64 0, .int .i64 8]) W := fun W => by kernel_rfl
  have i8 : ∀ W : World, (Instr.index 305 (.agg #[.int .i64 0, .int .i64 32, .int .i64 0, .int .i64 8, .int .i64 0, .int .i64 16, .int .i64 0, .int .i64 6, .int .i64 0, .int .i64 4, .int .i64 0, .int .i64 16, .int .i64 0, .int .i64 64, .int .i64 0, .int .i64 8, .int .i64 0, .int .i64 8, .int .i64 0, .int .i64 64]) (.int .i64 8)).run Tryz.prog W = .ok (.agg #[.int .i64 0, .int .i64 8]) W := fun W => by kernel_rfl
  have i9 : ∀ W : World, (Instr.index 305 (.agg #[.int .i64 0, .int .i64 32, .int .i64 0, .int .i64 8, .int .i64 0, .int .i64 16, .int .i64 0, .int .i64 6, .int .i64 0, .int .i64 4, .int .i64 0, .int .i64 16, .int .i64 0, .int .i64 64, .int .i64 0, .int .i64 8, .int .i64 0, .int .i64 8, .int .i64 0, .int .i64 64]) (.int .i64 9)).run Tryz.prog W = .ok (.agg #[.int .i64 0, .int .i64 64]) W := fun W => by kernel_rfl
  go_enter Tryz.func152, Tryz.ntmps152
  go_wp2
  refine wp_loop_rounds 1 ?_
  rw [rounds_succ]
  go_wp2
  refine wp_loop_rounds 1 ?_
  rw [rounds_succ]
  go_wp2
  refine wp_loop_rounds 11 ?_
  rw [rounds_succ]
  go_wp2
  rw [rounds_succ]
  go_wp2
  rw [rounds_succ]
  go_wp2
  rw [rounds_succ]
  go_wp2
  rw [rounds_succ]
  go_wp2
  rw [rounds_succ]
  go_wp2
  rw [rounds_succ]
  go_wp2
  rw [rounds_succ]
  go_wp2
  rw [rounds_succ]
  go_wp2
  rw [rounds_succ]
  go_wp2
  rw [rounds_succ]
  go_wp2
  go_ret
  refine ⟨rfl, ?_⟩
  repeat' (first | exact Below.refl _ _ | refine Below.alloc ?_ ?_ _ | refine Below.setCell ?_ ?_ _ | refine Below.drew ?_)
  all_goals first | (simp; done) | (simp; omega) | omega

set_option maxRecDepth 100000 in
set_option maxHeartbeats 4000000 in
theorem checker0 (b : Nat) (w : World) (h : Blk w b [.slice none 0 0, .slice none 0 0, .slice none 0 0, .slice none 0 0, .slice none 0 0, .slice none 0 0, .slice none 0 0, .slice none 0 0, .bool true] 222) : Calls Tryz.prog 153 #[.pointer (some ⟨b, 0, none⟩)] w fun e w' => e = .returned (.tuple #[]) ∧ w = w' := by
  obtain ⟨q0, _⟩ := h.at 0 _ rfl
  obtain ⟨q1, _⟩ := h.at 1 _ rfl
  obtain ⟨q2, _⟩ := h.at 2 _ rfl
  obtain ⟨q3, _⟩ := h.at 3 _ rfl
  obtain ⟨q4, _⟩ := h.at 4 _ rfl
  obtain ⟨q5, _⟩ := h.at 5 _ rfl
  obtain ⟨q6, _⟩ := h.at 6 _ rfl
  obtain ⟨q7, _⟩ := h.at 7 _ rfl
  clear h
  go_enter Tryz.func153, Tryz.ntmps153
  go_wp2
  refine wp_loop_rounds 1 ?_
  rw [rounds_succ]
  go_wp2
  refine wp_loop_rounds 1 ?_
  rw [rounds_succ]
  go_wp2
  refine wp_loop_rounds 1 ?_
  rw [rounds_succ]
  go_wp2
  refine wp_loop_rounds 1 ?_
  rw [rounds_succ]
  go_wp2
  refine wp_loop_rounds 1 ?_
  rw [rounds_succ]
  go_wp2
  refine wp_loop_rounds 1 ?_
  rw [rounds_succ]
  go_wp2
  go_end0
  exact ⟨rfl, rfl⟩

set_option maxRecDepth 100000 in
set_option maxHeartbeats 4000000 in
theorem typesCheck0 (w : World) (hT : Tab w) : Calls Tryz.prog 107 #[.agg #[.slice none 0 0, .slice none 0 0, .slice none 0 0, .slice none 0 0, .slice none 0 0, .slice none 0 0, .slice none 0 0, .slice none 0 0]] w (Ret w (.int .i64 0)) := by
  have hnot : ∀ (x : Bool) (w : World), (Op.unary .not (.bool x)).run Tryz.prog w = .ok (.bool (!x)) w := fun _ _ => rfl
  have HT := Lib.hid hT
  clear hT
  go_enter Tryz.func107, Tryz.ntmps107
  go_wp2_with fail
  refine (unitsCheck0 _ (HT.out.below ((Below.refl w.heap.size w).alloc (Nat.le_refl _) _))).mono ?_
  rintro e w1 ⟨rfl, hb1⟩
  have HB1 := Lib.hid (((Below.refl w.heap.size w).alloc (Nat.le_refl _) _).trans (hb1.mono (by simp)))
  have K1 := Lib.hid ((Blk.new w [.slice none 0 0, .slice none 0 0, .slice none 0 0, .slice none 0 0, .slice none 0 0, .slice none 0 0, .slice none 0 0, .slice none 0 0] 53).below hb1 (by simp))
  have hy1 : w.heap.size < w1.heap.size := K1.out.lt
  clear hb1
  obtain ⟨q0, _⟩ := K1.out.at 0 _ rfl
  obtain ⟨q1, _⟩ := K1.out.at 1 _ rfl
  obtain ⟨q2, _⟩ := K1.out.at 2 _ rfl
  obtain ⟨q3, _⟩ := K1.out.at 3 _ rfl
  obtain ⟨q4, _⟩ := K1.out.at 4 _ rfl
  obtain ⟨q5, _⟩ := K1.out.at 5 _ rfl
  obtain ⟨q6, _⟩ := K1.out.at 6 _ rfl
  obtain ⟨q7, _⟩ := K1.out.at 7 _ rfl
  go_wp2_with fail
  refine (within0 _).mono ?_
  rintro e w2 ⟨rfl, hb2⟩
  have HB2 := Lib.hid (HB1.out.trans (hb2.mono HB1.out.size))
  have K2 := Lib.hid (K1.out.below hb2 hy1)
  have hy2 : w.heap.size < w2.heap.size := K2.out.lt
  clear hb2 q0 q1 q2 q3 q4 q5 q6 q7
  obtain ⟨q0, _⟩ := K2.out.at 0 _ rfl
  obtain ⟨q1, _⟩ := K2.out.at 1 _ rfl
  obtain ⟨q2, _⟩ := K2.out.at 2 _ rfl
  obtain ⟨q3, _⟩ := K2.out.at 3 _ rfl
  obtain ⟨q4, _⟩ := K2.out.at 4 _ rfl
  obtain ⟨q5, _⟩ := K2.out.at 5 _ rfl
  obtain ⟨q6, _⟩ := K2.out.at 6 _ rfl
  obtain ⟨q7, _⟩ := K2.out.at 7 _ rfl
  go_wp2_with fail
  refine (checker0 w2.heap.size _ (Blk.new w2 _ _)).mono ?_
  rintro e w3 ⟨rfl, rfl⟩
  go_wp2
  go_ret
  exact ⟨rfl, HB2.out.alloc HB2.out.size _⟩
end Go.Proofs.YtoolanjbmbcaiaaGreatDoor
namespace Go.Proofs.YtoolanjbmbcaiaaGreatDoor
open Go.RowKit Bf

theorem int_info : (Tryz.prog.info? 3).map (fun i => (i.zero, i.size, i.bytes)) = some (some (.int .i64 0), 1, 8) := by kernel_rfl
theorem made0 (z : Array Value) : madeCells z 0 = #[] := by simp [madeCells]
theorem make_int0 (w : World) : (Instr.makeSlice 23 (.int .i64 0) (.int .i64 0)).run Tryz.prog w = .ok (.slice (some ⟨w.heap.size, 0, none⟩) 0 0) (w.alloc (.cells #[] 3)) := by
  have h := run_make_row' 23 3 (.int .i64 0) 8 Tryz.underlying23 int_info rfl .i64 .i64 0 (by omega) (by omega) w
  rw [made0] at h
  exact h

set_option maxRecDepth 100000 in
set_option maxHeartbeats 4000000 in
theorem optsValid0 (w : World) : Calls Tryz.prog 57 #[.agg #[.slice none 0 0, .slice none 0 0, .slice none 0 0, .slice none 0 0, .slice none 0 0, .slice none 0 0, .slice none 0 0, .slice none 0 0]] w fun e w' => e = .returned (.bool true) ∧ w.alloc (.cells #[.slice none 0 0, .slice none 0 0, .slice none 0 0, .slice none 0 0, .slice none 0 0, .slice none 0 0, .slice none 0 0, .slice none 0 0] 53) = w' := by
  go_enter Tryz.func57, Tryz.ntmps57
  go_wp2
  refine wp_loop_rounds 1 ?_
  rw [rounds_succ]
  go_wp2
  go_ret
  exact ⟨rfl, rfl⟩

theorem indexConds0 (f : Value) (w : World) : Calls Tryz.prog 168 #[.slice none 0 0, f] w fun e w' => e = .returned (.int .i64 (-1)) ∧ w = w' := by
  go_enter Tryz.func168, Tryz.ntmps168
  go_wp2
  refine wp_loop_rounds 1 ?_
  rw [rounds_succ]
  go_wp2
  go_ret
  exact ⟨rfl, rfl⟩

theorem containsConds0 (f : Value) (w : World) : Calls Tryz.prog 130 #[.slice none 0 0, f] w fun e w' => e = .returned (.bool false) ∧ w = w' := by
  go_enter Tryz.func130, Tryz.ntmps130
  go_wp2_with (go_at_call 168; refine (indexConds0 _ _).mono ?_; rintro e w1 ⟨rfl, rfl⟩)
  go_ret
  exact ⟨rfl, rfl⟩

set_option maxRecDepth 100000 in
set_option maxHeartbeats 4000000 in
theorem permitted0 (p : Addr) (w : World) : Calls Tryz.prog 90 #[.agg #[.slice none 0 0, .slice none 0 0, .slice none 0 0, .slice none 0 0, .slice none 0 0, .slice none 0 0, .slice none 0 0, .slice none 0 0], .slice (some p) 0 0] w fun e w' => e = .returned (.bool true) ∧ (w.alloc (.cells #[.slice none 0 0, .slice none 0 0, .slice none 0 0, .slice none 0 0, .slice none 0 0, .slice none 0 0, .slice none 0 0, .slice none 0 0] 53)).alloc (.cells #[.slice (some p) 0 0] 23) = w' := by
  have hmf : ∀ (fn : Fn) (first cap : Array Value) (w : World), (Instr.makeFunc fn first cap).run Tryz.prog w = .ok (.func fn first cap) w := fun _ _ _ _ => rfl
  have hnot : ∀ (x : Bool) (w : World), (Op.unary .not (.bool x)).run Tryz.prog w = .ok (.bool (!x)) w := fun _ _ => rfl
  go_enter Tryz.func90, Tryz.ntmps90
  go_wp2_with (go_at_call 130; refine (containsConds0 _ _).mono ?_; rintro e w1 ⟨rfl, rfl⟩)
  go_ret
  exact ⟨rfl, rfl⟩

set_option maxRecDepth 100000 in
set_option maxHeartbeats 4000000 in
theorem Valid0 (p : Addr) (w : World) : Calls Tryz.prog 58 #[.agg #[.slice none 0 0, .slice none 0 0, .slice none 0 0, .slice none 0 0, .slice none 0 0, .slice none 0 0, .slice none 0 0, .slice none 0 0], .slice (some p) 0 0] w (Ret w (.bool true)) := by
  have hnot : ∀ (x : Bool) (w : World), (Op.unary .not (.bool x)).run Tryz.prog w = .ok (.bool (!x)) w := fun _ _ => rfl
  go_enter Tryz.func58, Tryz.ntmps58
  go_wp2_with (first | (go_at_call 57; refine (optsValid0 _).mono ?_; rintro e w1 ⟨rfl, rfl⟩) | (go_at_call 90; refine (permitted0 _ _).mono ?_; rintro e w1 ⟨rfl, rfl⟩))
  refine wp_loop_rounds 1 ?_
  rw [rounds_succ]
  go_wp2_with (first | (go_at_call 57; refine (optsValid0 _).mono ?_; rintro e w1 ⟨rfl, rfl⟩) | (go_at_call 90; refine (permitted0 _ _).mono ?_; rintro e w1 ⟨rfl, rfl⟩))
  go_ret
  refine ⟨rfl, ?_⟩
  repeat' (first | exact Below.refl _ _ | refine Below.alloc ?_ ?_ _ | refine Below.setCell ?_ ?_ _ | refine Below.drew ?_)
  all_goals first | (simp; done) | (simp; omega) | omega

set_option maxRecDepth 100000 in
set_option maxHeartbeats 4000000 in
theorem Config0 (w : World) : Calls Tryz.prog 29 #[.agg #[.slice none 0 0, .slice none 0 0, .slice none 0 0, .slice none 0 0, .slice none 0 0, .slice none 0 0, .slice none 0 0, .slice none 0 0], .int .i64 0] w fun e w' => ∃ p, e = .returned (.tuple #[.slice (some p) 0 0, .int .i64 0]) ∧ Below w.heap.size w w' := by
  have hnot : ∀ (x : Bool) (w : World), (Op.unary .not (.bool x)).run Tryz.prog w = .ok (.bool (!x)) w := fun _ _ => rfl
  have hmk : ∀ W : World, (Instr.makeSlice 23 (.int .i64 0) (.int .i64 0)).run Tryz.prog W = .ok (.slice (some ⟨W.heap.size, 0, none⟩) 0 0) (W.alloc (.cells #[] 3)) := fun W => make_int0 W
  go_enter Tryz.func29, Tryz.ntmps29
  go_wp2_with (go_at_call 57; refine (optsValid0 _).mono ?_; rintro e w1 ⟨rfl, rfl⟩)
  refine wp_loop_rounds 1 ?_
  rw [rounds_succ]
  go_wp2_with fail
  refine (Valid0 _ _).mono ?_
  rintro e w1 ⟨rfl, hb1⟩
  have HB1 := Lib.hid (Below.trans (by
    repeat' (first | exact Below.refl _ _ | refine Below.alloc ?_ ?_ _ | refine Below.setCell ?_ ?_ _ | refine Below.drew ?_)
    all_goals first | (simp; done) | (simp; omega) | omega) (hb1.mono (by simp; omega)) : Below w.heap.size w w1)
  clear hb1
  go_wp2
  refine bodyPost_ret (v := .tuple #[.slice (some ⟨w.heap.size + 1 + 1, 0, none⟩) 0 0, .int .i64 0]) (by simp [results, Tryz.results29, go_sem]) rfl ⟨_, rfl, HB1.out⟩
end Go.Proofs.YtoolanjbmbcaiaaGreatDoor
namespace Go.Proofs.YtoolanjbmbcaiaaGreatDoor
open Go Go.RowKit Bf
attribute [local go_sem] Oper.semAt_some

theorem run_range0 {t k e : TypeId} (ht : Tryz.prog.underlying t = some (.map k e)) (w : World) (b : Nat) (hb : w.heap[b]? = some (.map #[] 0)) :
    (Instr.range t (.map (some b))).run Tryz.prog w = .ok (.pointer (some ⟨w.heap.size, 0, none⟩)) (w.alloc (.mapIter (some b) 0 #[] 0)) := by
  have hu := run_underlying (w := w) ht
  have hg : (getObj b).run Tryz.prog w = .ok (.map #[] 0) w := by simp [getObj, Sem.run, hb]
  simp [Instr.range, hu, hg, go_sem]
theorem run_next0 {t : TypeId} (w : World) (b r : Nat) (hb : w.heap[b]? = some (.map #[] 0)) (hr : w.heap[r]? = some (.mapIter (some b) 0 #[] 0)) :
    (Instr.next (.pointer (some ⟨r, 0, none⟩)) false t).run Tryz.prog w = .ok (.tuple #[.bool false]) w := by
  have hg : (getObj b).run Tryz.prog w = .ok (.map #[] 0) w := by simp [getObj, Sem.run, hb]
  have hq : (getObj r).run Tryz.prog w = .ok (.mapIter (some b) 0 #[] 0) w := by simp [getObj, Sem.run, hr]
  simp [Instr.next, go_sem, hg, hq, Question.forced]

set_option maxRecDepth 100000 in
set_option maxHeartbeats 4000000 in
theorem keysPlace1 (nn l Bm b : Nat) (J Jx : List Empty → World → Prop) (W : World) (hJ : AbidesFrom W.heap.size J)
    (hm : W.cell? ⟨Bm, 0, none⟩ = some (.map (some b))) (hb : W.heap[b]? = some (.map #[] 0)) (h0 : J [] W) :
    CallsIn Fence.wide nn Tryz.prog 270 #[.func (.yield l) #[] #[], .pointer (some ⟨Bm, 0, none⟩)] W fun e W' => (∃ v, e = .returned v) ∧ ((∃ xs, xs = [] ∧ J xs W') ∨ (∃ pre, False ∧ Jx pre W')) := by
  have hr := run_range0 Tryz.underlying314 W b hb
  have hb' : (W.alloc (.mapIter (some b) 0 #[] 0)).heap[b]? = some (.map #[] 0) := (Below.heap_alloc _ _ _ (Array.getElem?_eq_some_iff.1 hb).1).trans hb
  have hn := fun t => run_next0 (t := t) (W.alloc (.mapIter (some b) 0 #[] 0)) b W.heap.size hb' (World.alloc_heap_new _ _)
  have HJ := Lib.hid (hJ [] W _ none h0 (World.grownBy_alloc W (.mapIter (some b) 0 #[] 0) none) (fun r e => by cases e))
  clear hJ h0 hb hb'
  refine callsIn_of_wp Tryz.func270 rfl trivial ?_ rfl
  simp only [Tryz.ntmps270, List.size_toArray, List.length_cons, List.length_nil, Nat.reduceAdd, Nat.reduceSub, Array.replicate_succ, Array.replicate_zero, List.push_toArray, List.append_toArray, List.nil_append, List.cons_append]
  gi_wp2
  refine wpIn_loop_rounds 1 ?_
  rw [roundsIn_succ]
  gi_wp2
  go_end0
  exact ⟨⟨_, rfl⟩, .inl ⟨_, rfl, HJ.out⟩⟩

theorem keysPlace_stops (nn Bm b : Nat) (w : World) (hBm : Bm < w.heap.size) (hm : w.cell? ⟨Bm, 0, none⟩ = some (.map (some b))) (hb : w.heap[b]? = some (.map #[] 0)) :
    SeqStopsK Fence.wide nn Tryz.prog 270 #[.pointer (some ⟨Bm, 0, none⟩)] (fun x : Empty => x.elim) KeepsWalks (fun xs => xs = []) (fun _ => False) 0 w := fun l J Jx W hW hJ _ _ h0 =>
  keysPlace1 nn l Bm b J Jx W hJ ((hW.cell (p := ⟨Bm, 0, none⟩) hBm).trans hm) ((hW.block b (Array.getElem?_eq_some_iff.1 hb).1).trans hb) h0

set_option maxRecDepth 100000 in
set_option maxHeartbeats 4000000 in
theorem appendPlace0 (Bm b : Nat) (w : World) (hBm : Bm < w.heap.size) (hm : w.cell? ⟨Bm, 0, none⟩ = some (.map (some b))) (hb : w.heap[b]? = some (.map #[] 0)) :
    Calls Tryz.prog 292 #[.slice none 0 0, .func (.func 270) #[] #[.pointer (some ⟨Bm, 0, none⟩)]] w (Ret w (.slice none 0 0)) := by
  refine (callsIn_wide (n := 9)).1 ?_
  refine callsIn_of_wp_marks Tryz.func292 rfl trivial ?_ rfl
  refine wpIn_wide.2 ?_
  simp only [Tryz.ntmps292, List.size_toArray, List.length_cons, List.length_nil, Nat.reduceAdd, Nat.reduceSub, Array.replicate_succ, Array.replicate_zero, List.push_toArray, List.append_toArray, List.nil_append, List.cons_append]
  go_wp2_with fail
  refine (wpIn_wide (n := 9)).1 ?_
  obtain ⟨w1, hw1⟩ : ∃ w1, w.alloc (.cells #[.slice none 0 0] 228) = w1 := ⟨_, rfl⟩
  have c1 : w1.cell? ⟨w.heap.size, 0, none⟩ = some (.slice none 0 0) := by rw [← hw1]; simp [go_sem]
  have hB1 : Below w.heap.size w w1 := by rw [← hw1]; exact (Below.refl w.heap.size w).alloc (Nat.le_refl _) _
  have hs1 : w.heap.size < w1.heap.size := by rw [← hw1]; simp
  rw [hw1]
  refine' wpIn_rangeFunc_ownF rfl (by omega) (gf := 270) (lb := #[.pointer (some ⟨Bm, 0, none⟩)]) rfl trivial (enters_of Tryz.func270 (by kernel_rfl) rfl)
    (keysPlace_stops 8 Bm b w hBm hm hb) walksK_t walksK_b hB1 (fun x => x.elim)
    (fun _ W => W.cell? ⟨w.heap.size, 0, none⟩ = some (.slice none 0 0) ∧ Below w.heap.size w W)
    (fun _ _ _ => False) ?hI (fun _ _ _ _ _ hs _ _ => hs) ⟨c1, hB1⟩ (fun x => x.elim) ?assign ?body ?done ?stop
  case hI =>
    rintro pre A B row ⟨h1, h2⟩ hg hr
    refine ⟨hg.cell h1 (fun e => by have h9 : w1.heap.size ≤ w.heap.size := (hr _ e.symm).1; omega), h2.grown hg h2.size (fun k e => by have := (hr k e).1; omega)⟩
  case assign =>
    intro l x
    exact x.elim
  case body =>
    intro l pre x
    exact x.elim
  case done =>
    rintro D xs W hD rfl ⟨h1, h2⟩ hK
    go_wp2
    refine ⟨by simp, .inl ⟨_, _, rfl, run_takeDeferred hK, ?_⟩⟩
    refine ⟨.slice none 0 0, by simp [results, Tryz.results292, go_sem], rfl, ?_⟩
    exact h2.trans (belowK_b (w := w) (Nat.le_refl _) W D _ _ (by omega) hK rfl rfl)
  case stop =>
    rintro D c pre W _ _ h _
    exact h.elim
end Go.Proofs.YtoolanjbmbcaiaaGreatDoor
namespace Go.Proofs.YtoolanjbmbcaiaaGreatDoor
open Go.RowKit Bf

theorem insertion0 (f : Value) (w : World) : Calls Tryz.prog 310 #[.slice none 0 0, .int .i64 0, .int .i64 0, f] w fun e w' => e = .returned (.tuple #[]) ∧ w = w' := by
  go_enter Tryz.func310, Tryz.ntmps310
  go_wp2
  refine wp_loop_rounds 1 ?_
  rw [rounds_succ]
  go_wp2
  go_end0
  exact ⟨rfl, rfl⟩

set_option maxRecDepth 100000 in
set_option maxHeartbeats 4000000 in
theorem pdq0 (k : Int) (f : Value) (w : World) : Calls Tryz.prog 293 #[.slice none 0 0, .int .i64 0, .int .i64 0, .int .i64 k, f] w fun e w' => e = .returned (.tuple #[]) ∧ w = w' := by
  go_enter Tryz.func293, Tryz.ntmps293
  go_wp2
  refine wp_loop_rounds 1 ?_
  rw [rounds_succ]
  go_wp2_with (go_at_call 310; refine (insertion0 _ _).mono ?_; rintro e w1 ⟨rfl, rfl⟩)
  refine bodyPost_ret (results_none rfl _ _ _) rfl ?_
  exact ⟨rfl, rfl⟩

theorem bitsLen0 (w : World) : Calls Tryz.prog 294 #[.int .u64 0] w fun e w' => e = .returned (.int .i64 0) ∧ w = w' := by
  have HC := Lib.hid (show Calls Tryz.prog 172 #[.int .u64 0] w fun e w' => e = .returned (.int .i64 0) ∧ w = w' from (len64_any 0 w (by omega) (by omega)).mono (fun e W h => by rw [show Lib.bitLen (0:Int).toNat = 0 by decide] at h; exact h))
  go_enter Tryz.func294, Tryz.ntmps294
  go_wp2_with (go_at_call 172; refine HC.out.mono ?_; rintro e w1 ⟨rfl, rfl⟩)
  go_ret
  exact ⟨rfl, rfl⟩

set_option maxRecDepth 100000 in
set_option maxHeartbeats 4000000 in
theorem sortFunc0 (f : Value) (w : World) : Calls Tryz.prog 269 #[.slice none 0 0, f] w fun e w' => e = .returned (.tuple #[]) ∧ w = w' := by
  go_enter Tryz.func269, Tryz.ntmps269
  go_wp2_with (first | (go_at_call 294; refine (bitsLen0 _).mono ?_; rintro e w1 ⟨rfl, rfl⟩) | (go_at_call 293; refine (pdq0 _ _ _).mono ?_; rintro e w1 ⟨rfl, rfl⟩))
  go_end0
  exact ⟨rfl, rfl⟩

set_option maxRecDepth 100000 in
set_option maxHeartbeats 4000000 in
theorem collectPlace0 (Bm b : Nat) (w : World) (hBm : Bm < w.heap.size) (hm : w.cell? ⟨Bm, 0, none⟩ = some (.map (some b))) (hb : w.heap[b]? = some (.map #[] 0)) : Calls Tryz.prog 268 #[.func (.func 270) #[] #[.pointer (some ⟨Bm, 0, none⟩)]] w (Ret w (.slice none 0 0)) := by
  have HC := Lib.hid (appendPlace0 Bm b w hBm hm hb)
  clear hBm hm hb
  go_enter Tryz.func268, Tryz.ntmps268
  go_wp2_with (go_at_call 292; refine HC.out.mono ?_; rintro e w1 ⟨rfl, hb1⟩)
  go_ret
  exact ⟨rfl, hb1⟩

set_option maxRecDepth 100000 in
set_option maxHeartbeats 4000000 in
theorem sortedFunc0 (Bm b : Nat) (f : Value) (w : World) (hBm : Bm < w.heap.size) (hm : w.cell? ⟨Bm, 0, none⟩ = some (.map (some b))) (hb : w.heap[b]? = some (.map #[] 0)) : Calls Tryz.prog 227 #[.func (.func 270) #[] #[.pointer (some ⟨Bm, 0, none⟩)], f] w (Ret w (.slice none 0 0)) := by
  have HC := Lib.hid (collectPlace0 Bm b w hBm hm hb)
  clear hBm hm hb
  go_enter Tryz.func227, Tryz.ntmps227
  go_wp2_with (first | (go_at_call 268; refine HC.out.mono ?_; rintro e w1 ⟨rfl, hb1⟩) | (go_at_call 269; refine (sortFunc0 _ _).mono ?_; rintro e w1 ⟨rfl, rfl⟩))
  go_ret
  exact ⟨rfl, hb1⟩

theorem keysPlace0 (b : Nat) (w : World) : Calls Tryz.prog 228 #[.map (some b)] w fun e w' => e = .returned (.func (.func 270) #[] #[.pointer (some ⟨w.heap.size, 0, none⟩)]) ∧ w.alloc (.cells #[.map (some b)] 314) = w' := by
  have hmf : ∀ (fn : Fn) (first cap : Array Value) (w : World), (Instr.makeFunc fn first cap).run Tryz.prog w = .ok (.func fn first cap) w := fun _ _ _ _ => rfl
  go_enter Tryz.func228, Tryz.ntmps228
  go_wp2
  go_ret
  exact ⟨rfl, rfl⟩

set_option maxRecDepth 100000 in
set_option maxHeartbeats 4000000 in
theorem places0 (w : World) : Calls Tryz.prog 156 #[.agg #[.slice none 0 0, .slice none 0 0, .slice none 0 0, .slice none 0 0, .slice none 0 0, .slice none 0 0, .slice none 0 0, .slice none 0 0]] w (Ret w (.slice none 0 0)) := by
  have hmm := @run_makeMap Tryz.prog
  go_enter Tryz.func156, Tryz.ntmps156
  go_wp2
  refine wp_loop_rounds 1 ?_
  rw [rounds_succ]
  go_wp2_with (go_at_call 228; refine (keysPlace0 _ _).mono ?_; rintro e w1 ⟨rfl, rfl⟩)
  refine (sortedFunc0 (w.heap.size + 1 + 1) (w.heap.size + 1) _ _ ?_ ?_ ?_).mono ?_
  · simp
  · simp [go_sem]
  · rw [Below.heap_alloc _ _ _ (by simp)]
    have := World.alloc_heap_new (w.alloc (.cells #[.slice none 0 0, .slice none 0 0, .slice none 0 0, .slice none 0 0, .slice none 0 0, .slice none 0 0, .slice none 0 0, .slice none 0 0] 53)) (.map #[] 0)
    rwa [World.size_alloc] at this
  rintro e w1 ⟨rfl, hb1⟩
  have HB1 := Lib.hid (Below.trans (by
    repeat' (first | exact Below.refl _ _ | refine Below.alloc ?_ ?_ _ | refine Below.setCell ?_ ?_ _ | refine Below.drew ?_)
    all_goals first | (simp; done) | (simp; omega) | omega) (hb1.mono (by simp; omega)) : Below w.heap.size w w1)
  clear hb1
  go_wp2
  go_ret
  exact ⟨rfl, HB1.out⟩
end Go.Proofs.YtoolanjbmbcaiaaGreatDoor
namespace Go.Proofs.YtoolanjbmbcaiaaGreatDoor
open Go Go.RowKit Bf
attribute [local go_sem] Oper.semAt_some

theorem append_zero (w : World) (ty : TypeId) (p q : Addr) : (Builtin.append_ #[23, 23] ty #[.slice (some p) 0 0, .slice (some q) 0 0]).run Tryz.prog w = .ok (.slice (some p) 0 0) w := by
  simp [Builtin.append_, run_underlying Tryz.underlying23, go_sem, Builtin.lenOf]

set_option maxRecDepth 100000 in
set_option maxHeartbeats 4000000 in
theorem cloneInt0 (p : Addr) (w : World) : Calls Tryz.prog 226 #[.slice (some p) 0 0] w fun e w' => e = .returned (.slice (some ⟨w.heap.size, 0, none⟩) 0 0) ∧ w.alloc (.cells #[] 3) = w' := by
  have hap := append_zero
  have hq : ∀ W : World, (binOp .eql 23 (.slice (some p) 0 0) (.slice none 0 0)).run Tryz.prog W = .ok (.bool false) W := fun W => by kernel_rfl
  go_enter Tryz.func226, Tryz.ntmps226
  go_wp2
  go_ret
  exact ⟨rfl, rfl⟩

theorem ints_info : (Tryz.prog.info? 23).map (fun i => (i.zero, i.size, i.bytes)) = some (some (.slice none 0 0), 1, 24) := by kernel_rfl
theorem append_first (w : World) (ty : TypeId) (a : Addr) (v : Value) (h : w.cell? a = some v) : (Builtin.append_ #[223, 223] ty #[.slice none 0 0, .slice (some a) 1 1]).run Tryz.prog w =
    .ok (.slice (some ⟨w.heap.size, 0, none⟩) 1 (grownCap w 1 0 23)) (w.drew.alloc (.cells (#[v] ++ Builtin.zeroCells #[.slice none 0 0] (grownCap w 1 0 23 - 1)) 23)) := by
  obtain ⟨i, hi, hzz⟩ := Option.map_eq_some_iff.1 ints_info
  simp only [Prod.mk.injEq] at hzz
  obtain ⟨hz, hs, hb⟩ := hzz
  have := run_append_nil (P := Tryz.prog) (w := w) 223 ty 23 i _ Tryz.underlying223 hi hz a 1 1 [v] (by simp [hs]) (fun j u hj => by
    cases j with
    | zero => simp at hj; subst hj; simpa [Addr.add] using h
    | succ j => simp at hj) (by omega) (by omega) (by rw [hb]; omega)
  exact this

set_option maxRecDepth 100000 in
set_option maxHeartbeats 4000000 in
theorem configs1 (nn l B : Nat) (J Jx : List Addr → World → Prop) (W : World) (hJ : AbidesFrom W.heap.size J) (h : Blk W B [.slice none 0 0, .slice none 0 0, .slice none 0 0, .slice none 0 0, .slice none 0 0, .slice none 0 0, .slice none 0 0, .slice none 0 0] 53)
    (hY : ∀ pre x W1, J pre W1 → pre.length < 1 → YieldAt Fence.wide (nn - 1) Tryz.prog l #[.slice (some x) 0 0] W1 fun e W' =>
      (e = .returned (.bool true) ∧ J (pre ++ [x]) W' ∧ True) ∨ (e = .returned (.bool false) ∧ Jx (pre ++ [x]) W'))
    (h0 : J [] W) :
    CallsIn Fence.wide nn Tryz.prog 225 #[.func (.yield l) #[] #[], .pointer (some ⟨B, 0, none⟩)] W fun e W' => (∃ v, e = .returned v) ∧ ((∃ xs, True ∧ J xs W') ∨ (∃ pre, True ∧ Jx pre W')) := by
  have hnot : ∀ (x : Bool) (w : World), (Op.unary .not (.bool x)).run Tryz.prog w = .ok (.bool (!x)) w := fun _ _ => rfl
  have hmk := make_int0
  have al : ∀ V o, J [] V → J [] (V.alloc o) := fun V o h => hJ [] V _ none h (World.grownBy_alloc V o none) (fun r e => by cases e)
  have HJ := Lib.hid (al _ (.cells #[] 3) (al _ (.cells #[.slice (some ⟨W.heap.size, 0, none⟩) 0 0] 23) (al _ (.cells #[.slice none 0 0, .slice none 0 0, .slice none 0 0, .slice none 0 0, .slice none 0 0, .slice none 0 0, .slice none 0 0, .slice none 0 0] 53) (al _ (.cells #[] 3) h0))))
  obtain ⟨q0, _⟩ := h.at 0 _ rfl
  obtain ⟨q1, _⟩ := h.at 1 _ rfl
  obtain ⟨q2, _⟩ := h.at 2 _ rfl
  obtain ⟨q3, _⟩ := h.at 3 _ rfl
  obtain ⟨q4, _⟩ := h.at 4 _ rfl
  obtain ⟨q5, _⟩ := h.at 5 _ rfl
  obtain ⟨q6, _⟩ := h.at 6 _ rfl
  obtain ⟨q7, _⟩ := h.at 7 _ rfl
  have hlt := h.lt
  have hne : ¬ W.heap.size = B := by omega
  have hne' : ¬ B = W.heap.size := by omega
  have HY := Lib.hid hY
  have HJ0 := Lib.hid hJ
  clear h al hJ h0 hY
  refine callsIn_of_wp Tryz.func225 rfl trivial ?_ rfl
  simp only [Tryz.ntmps225, List.size_toArray, List.length_cons, List.length_nil, Nat.reduceAdd, Nat.reduceSub, Array.replicate_succ, Array.replicate_zero, List.push_toArray, List.append_toArray, List.nil_append, List.cons_append]
  gi_wp2
  refine wpIn_loop_rounds 1 ?_
  rw [roundsIn_succ]
  gi_wp2
  refine ⟨trivial, fun e => by simp [Fence.wide] at e, (callsIn_wide.2 (permitted0 _ _)).mono ?_⟩
  rintro e w1 ⟨rfl, rfl⟩
  gi_wp2
  refine ⟨trivial, fun e => by simp [Fence.wide] at e, (callsIn_wide.2 (cloneInt0 _ _)).mono ?_⟩
  rintro e w1 ⟨rfl, rfl⟩
  obtain ⟨fn, tmps, assign, body, hy, hR⟩ := HY.out [] ⟨W.heap.size + 1 + 1 + 1, 0, none⟩ _ HJ.out (by simp)
  gi_wp2
  refine ⟨fun e => by simp [Fence.wide] at e, hR.mono ?_⟩
  rintro e W3 (⟨rfl, hJ3, _⟩ | ⟨rfl, hJx3⟩)
  · gi_wp2
    refine wpIn_wide.2 ?_
    refine wp_loop_rounds 1 ?_
    rw [rounds_succ]
    go_wp2
    go_quiet (fail)
    go_wp2
    gi_wp2
    refine bodyPost_ret (results_none rfl _ _ _) rfl ?_
    exact ⟨⟨_, rfl⟩, .inl ⟨_, trivial, HJ0.out _ _ _ none hJ3 ⟨rfl, rfl, rfl, Nat.le_refl _, fun _ _ _ => rfl⟩ (fun r e => by cases e)⟩⟩
  · gi_wp2
    refine bodyPost_ret (results_none rfl _ _ _) rfl ?_
    exact ⟨⟨_, rfl⟩, .inr ⟨_, trivial, hJx3⟩⟩

theorem configs_stops (nn B : Nat) (w : World) (h : Blk w B [.slice none 0 0, .slice none 0 0, .slice none 0 0, .slice none 0 0, .slice none 0 0, .slice none 0 0, .slice none 0 0, .slice none 0 0] 53) :
    SeqStopsK Fence.wide nn Tryz.prog 225 #[.pointer (some ⟨B, 0, none⟩)] (fun x : Addr => #[.slice (some x) 0 0]) (fun _ _ => True) (fun _ => True) (fun _ => True) 1 w := fun l J Jx W hW hJ _ hY h0 =>
  configs1 nn l B J Jx W hJ (h.below hW h.lt) hY h0

set_option maxRecDepth 100000 in
set_option maxHeartbeats 4000000 in
theorem appendInts0 (B : Nat) (w : World) (h : Blk w B [.slice none 0 0, .slice none 0 0, .slice none 0 0, .slice none 0 0, .slice none 0 0, .slice none 0 0, .slice none 0 0, .slice none 0 0] 53) :
    Calls Tryz.prog 224 #[.slice none 0 0, .func (.func 225) #[] #[.pointer (some ⟨B, 0, none⟩)]] w (fun e w' => ∃ v, e = .returned v ∧ Below w.heap.size w w') := by
  refine (callsIn_wide (n := 9)).1 ?_
  refine callsIn_of_wp_marks Tryz.func224 rfl trivial ?_ rfl
  refine wpIn_wide.2 ?_
  simp only [Tryz.ntmps224, List.size_toArray, List.length_cons, List.length_nil, Nat.reduceAdd, Nat.reduceSub, Array.replicate_succ, Array.replicate_zero, List.push_toArray, List.append_toArray, List.nil_append, List.cons_append]
  go_wp2_with fail
  refine (wpIn_wide (n := 9)).1 ?_
  obtain ⟨w1, hw1⟩ : ∃ w1, w.alloc (.cells #[.slice none 0 0] 223) = w1 := ⟨_, rfl⟩
  have c1 : Blk w1 w.heap.size [.slice none 0 0] 223 := by rw [← hw1]; exact Blk.new w _ _
  have hB1 : Below w.heap.size w w1 := by rw [← hw1]; exact (Below.refl w.heap.size w).alloc (Nat.le_refl _) _
  have hs1 : w.heap.size < w1.heap.size := by rw [← hw1]; simp
  rw [hw1]
  refine' wpIn_rangeFunc_ownF rfl (by omega) (gf := 225) (lb := #[.pointer (some ⟨B, 0, none⟩)]) rfl trivial (enters_of Tryz.func225 (by kernel_rfl) rfl)
    (configs_stops 8 B w h) (fun _ _ => trivial) (fun _ _ _ _ _ _ _ _ => trivial) hB1 (fun _ => rfl)
    (fun pre W => ∃ v, Blk W w.heap.size [v] 223 ∧ (pre = [] → v = .slice none 0 0) ∧ Below w.heap.size w W)
    (fun _ _ _ => False) ?hI (fun _ _ _ _ _ hs _ _ => hs) ⟨_, c1, fun _ => rfl, hB1⟩ _ ?assign ?body ?done ?stop
  case hI =>
    rintro pre A C row ⟨v, h1, h3, h2⟩ hg hr
    refine ⟨v, h1.grown hg (fun e => by have h9 : w1.heap.size ≤ w.heap.size := (hr _ e.symm).1; omega), h3, h2.grown hg h2.size (fun k e => by have := (hr k e).1; omega)⟩
  case assign =>
    intro l x W K hK
    gi_wp2
    exact hK
  case body =>
    rintro l pre x W ⟨v, h1, h3, h2⟩ hp
    obtain rfl : pre = [] := by cases pre with
      | nil => rfl
      | cons a b => simp at hp
    obtain rfl := h3 rfl
    obtain ⟨q0, f0⟩ := h1.at 0 _ rfl
    have hlt := h1.lt
    have hne : ¬ W.heap.size = w.heap.size := by omega
    have hne' : ¬ w.heap.size = W.heap.size := by omega
    have hne1 : ¬ W.heap.size + 1 = w.heap.size := by omega
    have hne1' : ¬ w.heap.size = W.heap.size + 1 := by omega
    have hap := fun ty => append_first (W.alloc (.cells #[.slice (some x) 0 0] 23)) ty ⟨W.heap.size, 0, none⟩ (.slice (some x) 0 0) (by simp [go_sem])
    have HB := Lib.hid h1
    have HL := Lib.hid h2
    clear h1 h2 h3 hp
    gi_wp2
    refine ⟨?k, trivial, ?v, ?hb, ?he, ?hl⟩
    case hb => exact (((HB.out.set 0 _).alloc _).alloc _).drew
    case he => intro e; simp at e
    case k => exact (((KeepsOthers.setCell _ _ _).trans (KeepsOthers.alloc _ _)).trans (KeepsOthers.alloc _ _)).trans (KeepsOthers.drew _)
    case hl => exact ((((HL.out.setCell (p := ⟨w.heap.size, 0, none⟩) (Nat.le_refl _) _).alloc (by have := HL.out.size; simp [World.setCell]; omega) _).alloc (by have := HL.out.size; simp [World.setCell]; omega) _).drew)
  case done =>
    rintro D xs W hD _ ⟨v, h1, _, h2⟩ hK
    obtain ⟨q0, f0⟩ := h1.at 0 _ rfl
    go_wp2
    refine ⟨by simp, .inl ⟨_, _, rfl, run_takeDeferred hK, ?_⟩⟩
    refine ⟨v, by simp [results, Tryz.results224, go_sem], _, rfl, ?_⟩
    exact h2.trans (belowK_b (w := w) (Nat.le_refl _) W D _ _ (by omega) hK rfl rfl)
  case stop =>
    rintro D c pre W _ _ h _
    exact h.elim

set_option maxRecDepth 100000 in
set_option maxHeartbeats 4000000 in
theorem collectInts0 (B : Nat) (w : World) (h : Blk w B [.slice none 0 0, .slice none 0 0, .slice none 0 0, .slice none 0 0, .slice none 0 0, .slice none 0 0, .slice none 0 0, .slice none 0 0] 53) : Calls Tryz.prog 154 #[.func (.func 225) #[] #[.pointer (some ⟨B, 0, none⟩)]] w (fun e w' => ∃ v, e = .returned v ∧ Below w.heap.size w w') := by
  have HC := Lib.hid (appendInts0 B w h)
  clear h
  go_enter Tryz.func154, Tryz.ntmps154
  go_wp2_with (go_at_call 224; refine HC.out.mono ?_; rintro e w1 ⟨v, rfl, hb1⟩)
  go_ret
  exact ⟨_, rfl, hb1⟩


theorem configs0 (w : World) : Calls Tryz.prog 155 #[.agg #[.slice none 0 0, .slice none 0 0, .slice none 0 0, .slice none 0 0, .slice none 0 0, .slice none 0 0, .slice none 0 0, .slice none 0 0]] w fun e w' => e = .returned (.func (.func 225) #[] #[.pointer (some ⟨w.heap.size, 0, none⟩)]) ∧ w.alloc (.cells #[.slice none 0 0, .slice none 0 0, .slice none 0 0, .slice none 0 0, .slice none 0 0, .slice none 0 0, .slice none 0 0, .slice none 0 0] 53) = w' := by
  have hmf : ∀ (fn : Fn) (first cap : Array Value) (w : World), (Instr.makeFunc fn first cap).run Tryz.prog w = .ok (.func fn first cap) w := fun _ _ _ _ => rfl
  go_enter Tryz.func155, Tryz.ntmps155
  go_wp2
  go_ret
  exact ⟨rfl, rfl⟩

end Go.Proofs.YtoolanjbmbcaiaaGreatDoor
