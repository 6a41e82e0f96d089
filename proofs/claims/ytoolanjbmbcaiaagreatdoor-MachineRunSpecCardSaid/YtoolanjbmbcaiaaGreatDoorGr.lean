/- Contracts of functions that the law reaches, and plain lemmas, texts Qm Qn Qo Qq: no condition beyond those that each theorem names. -/
import Derived.Test.YtoolanjbmbcaiaaGreatDoorGq
import Derived.Test.YtoolanjbmbcaiaaGreatDoorGc
import Derived.Test.YtoolanjbmbcaiaaGreatDoorGd
namespace Go.Proofs.YtoolanjbmbcaiaaGreatDoor
open Go.RowKit Bf

theorem in17_any (n l g : Int) (w : World) : Calls Tryz.prog 53 #[.int .i64 n, .int .i64 l, .int .i64 g] w fun e w' => e = .returned (.bool (btw n l g)) ∧ w = w' := by
  unfold btw
  by_cases h1 : l ≤ n
  · have t1 : decide (l ≤ n) = true := by simpa using h1
    by_cases h2 : n ≤ g
    · have t2 : decide (n ≤ g) = true := by simpa using h2
      go_enter Tryz.func53, Tryz.ntmps53
      go_wp2
      go_ret
      exact ⟨by first | rfl | (rw [t1, t2]; rfl), rfl⟩
    · have t2 : decide (n ≤ g) = false := by simpa using h2
      go_enter Tryz.func53, Tryz.ntmps53
      go_wp2
      go_ret
      exact ⟨by first | rfl | (rw [t1, t2]; rfl), rfl⟩
  · have t1 : decide (l ≤ n) = false := by simpa using h1
    go_enter Tryz.func53, Tryz.ntmps53
    go_wp2
    go_ret
    exact ⟨by first | rfl | (rw [t1]; rfl), rfl⟩

theorem sign17_any (neg : Bool) (n d : ByteArray) (w : World) : Calls Tryz.prog 54 #[.agg #[.bool neg, .string n, .string d]] w (Ret w (.bool (alz neg n d))) := by
  have HC := Lib.hid (fun W => check07_any neg n d W)
  have hnot : ∀ (x : Bool) (w : World), (Op.unary .not (.bool x)).run Tryz.prog w = .ok (.bool (!x)) w := fun _ _ => rfl
  unfold alz
  generalize rchk neg n d = rv at *
  by_cases h : rv = 0
  · subst h
    go_enter Tryz.func54, Tryz.ntmps54
    go_wp2_with fail
    refine (HC.out _).mono ?_
    rintro e w1 ⟨rfl, hb1⟩
    obtain ⟨hc1, hf1⟩ := bcell hb1
    have HB1 := Lib.hid (((Below.refl w.heap.size w).alloc (Nat.le_refl _) _).trans (hb1.mono (by simp)))
    clear hb1
    go_wp2
    go_ret
    exact ⟨by simp, HB1.out⟩
  · have t : (rv == 0) = false := by simpa using h
    rw [t]
    clear h
    go_enter Tryz.func54, Tryz.ntmps54
    go_wp2_with fail
    refine (HC.out _).mono ?_
    rintro e w1 ⟨rfl, hb1⟩
    obtain ⟨hc1, hf1⟩ := bcell hb1
    have HB1 := Lib.hid (((Below.refl w.heap.size w).alloc (Nat.le_refl _) _).trans (hb1.mono (by simp)))
    clear hb1
    go_wp2
    go_ret
    exact ⟨rfl, HB1.out⟩

set_option maxRecDepth 100000 in
set_option maxHeartbeats 2000000 in
theorem vld17_1 (A B : Int) (neg : Bool) (n d : ByteArray) (after : Int) (w : World) :
    Calls Tryz.prog 26 #[.agg #[.int .i64 1, .int .i64 A, .int .i64 B, .bool neg, .string n, .string d], .int .i64 after] w (Ret w (.bool ((btw A (-2) 5 && btw B 0 1024) && decide (2 ≤ after)))) := by
  have H1 := Lib.hid (fun W => in17_any A (-2) 5 W)
  have H2 := Lib.hid (fun W => in17_any B 0 1024 W)
  generalize btw A (-2) 5 = b1 at *
  generalize btw B 0 1024 = b2 at *
  cases b1 <;> cases b2
  all_goals
    go_enter Tryz.func26, Tryz.ntmps26
    go_wp2_with (first | (go_at_call 53; with_reducible refine (H1.out _).mono ?_; rintro e w1 ⟨rfl, rfl⟩) | (go_at_call 53; with_reducible refine (H2.out _).mono ?_; rintro e w1 ⟨rfl, rfl⟩))
    go_ret
    exact ⟨by first | rfl | simp, (Below.refl _ _).alloc (Nat.le_refl _) _⟩
set_option maxRecDepth 100000 in
set_option maxHeartbeats 2000000 in
theorem vld17_2 (A B : Int) (neg : Bool) (n d : ByteArray) (after : Int) (w : World) :
    Calls Tryz.prog 26 #[.agg #[.int .i64 2, .int .i64 A, .int .i64 B, .bool neg, .string n, .string d], .int .i64 after] w (Ret w (.bool (decide (0 ≤ A) && decide (A < after)))) := by
  obtain ⟨p1, h1⟩ : ∃ p1, decide (0 ≤ A) = p1 := ⟨_, rfl⟩
  obtain ⟨p2, h2⟩ : ∃ p2, decide (A < after) = p2 := ⟨_, rfl⟩
  rw [h1, h2]
  cases p1 <;> cases p2
  all_goals
    go_enter Tryz.func26, Tryz.ntmps26
    go_wp2
    go_ret
    exact ⟨by first | rfl | simp, (Below.refl _ _).alloc (Nat.le_refl _) _⟩

set_option maxRecDepth 100000 in
set_option maxHeartbeats 2000000 in
theorem vld17_3 (A B : Int) (neg : Bool) (n d : ByteArray) (after : Int) (w : World) :
    Calls Tryz.prog 26 #[.agg #[.int .i64 3, .int .i64 A, .int .i64 B, .bool neg, .string n, .string d], .int .i64 after] w (Ret w (.bool (((alz neg n d && !n.toList.isEmpty) && btw A 0 63) && btw B 0 15))) := by
  have HA := Lib.hid (fun W => sign17_any neg n d W)
  generalize alz neg n d = b0 at *
  have H1 := Lib.hid (fun W => in17_any A 0 63 W)
  generalize btw A 0 63 = b1 at *
  have H2 := Lib.hid (fun W => in17_any B 0 15 W)
  generalize btw B 0 15 = b2 at *
  obtain ⟨p1, h1⟩ : ∃ p1, n.toList.isEmpty = p1 := ⟨_, rfl⟩
  rw [h1]
  cases b0 <;> cases p1 <;> cases b1 <;> cases b2
  all_goals
    go_enter Tryz.func26, Tryz.ntmps26
    go_wp2_with fail
    refine (HA.out _).mono ?_
    rintro e w1 ⟨rfl, hb1⟩
    obtain ⟨hc1, hf1⟩ := bcell hb1
    have hy1 : w.heap.size < w1.heap.size := by have := hb1.size; simp at this; omega
    have HB1 := Lib.hid (((Below.refl w.heap.size w).alloc (Nat.le_refl _) _).trans (hb1.mono (by simp)))
    clear hb1
    go_wp2_with (first | (go_at_call 53; with_reducible refine (H1.out _).mono ?_; rintro e w2 ⟨rfl, rfl⟩) | (go_at_call 53; with_reducible refine (H2.out _).mono ?_; rintro e w2 ⟨rfl, rfl⟩))
    go_ret
    exact ⟨by first | rfl | simp, HB1.out⟩

set_option maxRecDepth 100000 in
set_option maxHeartbeats 2000000 in
theorem vld17_4 (A B : Int) (neg : Bool) (n d : ByteArray) (after : Int) (w : World) :
    Calls Tryz.prog 26 #[.agg #[.int .i64 4, .int .i64 A, .int .i64 B, .bool neg, .string n, .string d], .int .i64 after] w (Ret w (.bool ((alz neg n d && btw A 0 31) && btw B 0 1))) := by
  have HA := Lib.hid (fun W => sign17_any neg n d W)
  generalize alz neg n d = b0 at *
  have H1 := Lib.hid (fun W => in17_any A 0 31 W)
  generalize btw A 0 31 = b1 at *
  have H2 := Lib.hid (fun W => in17_any B 0 1 W)
  generalize btw B 0 1 = b2 at *
  cases b0 <;> cases b1 <;> cases b2
  all_goals
    go_enter Tryz.func26, Tryz.ntmps26
    go_wp2_with fail
    refine (HA.out _).mono ?_
    rintro e w1 ⟨rfl, hb1⟩
    obtain ⟨hc1, hf1⟩ := bcell hb1
    have hy1 : w.heap.size < w1.heap.size := by have := hb1.size; simp at this; omega
    have HB1 := Lib.hid (((Below.refl w.heap.size w).alloc (Nat.le_refl _) _).trans (hb1.mono (by simp)))
    clear hb1
    go_wp2_with (first | (go_at_call 53; with_reducible refine (H1.out _).mono ?_; rintro e w2 ⟨rfl, rfl⟩) | (go_at_call 53; with_reducible refine (H2.out _).mono ?_; rintro e w2 ⟨rfl, rfl⟩))
    go_ret
    exact ⟨by first | rfl | simp, HB1.out⟩

set_option maxRecDepth 100000 in
set_option maxHeartbeats 2000000 in
theorem vld17_5 (A B : Int) (neg : Bool) (n d : ByteArray) (after : Int) (w : World) :
    Calls Tryz.prog 26 #[.agg #[.int .i64 5, .int .i64 A, .int .i64 B, .bool neg, .string n, .string d], .int .i64 after] w (Ret w (.bool ((alz neg n d && btw A 0 31) && decide (B = 0)))) := by
  have HA := Lib.hid (fun W => sign17_any neg n d W)
  generalize alz neg n d = b0 at *
  have H1 := Lib.hid (fun W => in17_any A 0 31 W)
  generalize btw A 0 31 = b1 at *
  rw [show decide (B = 0) = (B == 0) from by rw [Bool.eq_iff_iff]; simp]
  obtain ⟨p1, h1⟩ : ∃ p1, (B == 0) = p1 := ⟨_, rfl⟩
  rw [h1]
  cases b0 <;> cases b1 <;> cases p1
  all_goals
    go_enter Tryz.func26, Tryz.ntmps26
    go_wp2_with fail
    refine (HA.out _).mono ?_
    rintro e w1 ⟨rfl, hb1⟩
    obtain ⟨hc1, hf1⟩ := bcell hb1
    have hy1 : w.heap.size < w1.heap.size := by have := hb1.size; simp at this; omega
    have HB1 := Lib.hid (((Below.refl w.heap.size w).alloc (Nat.le_refl _) _).trans (hb1.mono (by simp)))
    clear hb1
    go_wp2_with (first | (go_at_call 53; with_reducible refine (H1.out _).mono ?_; rintro e w2 ⟨rfl, rfl⟩))
    go_ret
    exact ⟨by first | rfl | simp, HB1.out⟩

set_option maxRecDepth 100000 in
set_option maxHeartbeats 2000000 in
theorem vld17_6 (A B : Int) (neg : Bool) (n d : ByteArray) (after : Int) (w : World) :
    Calls Tryz.prog 26 #[.agg #[.int .i64 6, .int .i64 A, .int .i64 B, .bool neg, .string n, .string d], .int .i64 after] w (Ret w (.bool (btw A 0 15 && btw B 0 15))) := by
  have H1 := Lib.hid (fun W => in17_any A 0 15 W)
  generalize btw A 0 15 = b1 at *
  have H2 := Lib.hid (fun W => in17_any B 0 15 W)
  generalize btw B 0 15 = b2 at *
  cases b1 <;> cases b2
  all_goals
    go_enter Tryz.func26, Tryz.ntmps26
    go_wp2_with (first | (go_at_call 53; with_reducible refine (H1.out _).mono ?_; rintro e w2 ⟨rfl, rfl⟩) | (go_at_call 53; with_reducible refine (H2.out _).mono ?_; rintro e w2 ⟨rfl, rfl⟩))
    go_ret
    exact ⟨by first | rfl | simp, (Below.refl _ _).alloc (Nat.le_refl _) _⟩

set_option maxRecDepth 100000 in
set_option maxHeartbeats 2000000 in
theorem vld17_7 (A B : Int) (neg : Bool) (n d : ByteArray) (after : Int) (w : World) :
    Calls Tryz.prog 26 #[.agg #[.int .i64 7, .int .i64 A, .int .i64 B, .bool neg, .string n, .string d], .int .i64 after] w (Ret w (.bool (true))) := by
  go_enter Tryz.func26, Tryz.ntmps26
  go_wp2
  go_ret
  exact ⟨by first | rfl | simp, (Below.refl _ _).alloc (Nat.le_refl _) _⟩

set_option maxRecDepth 100000 in
set_option maxHeartbeats 2000000 in
theorem vld17_8 (A B : Int) (neg : Bool) (n d : ByteArray) (after : Int) (w : World) :
    Calls Tryz.prog 26 #[.agg #[.int .i64 8, .int .i64 A, .int .i64 B, .bool neg, .string n, .string d], .int .i64 after] w (Ret w (.bool (true))) := by
  go_enter Tryz.func26, Tryz.ntmps26
  go_wp2
  go_ret
  exact ⟨by first | rfl | simp, (Below.refl _ _).alloc (Nat.le_refl _) _⟩

set_option maxRecDepth 100000 in
set_option maxHeartbeats 2000000 in
theorem vld17_other (op A B : Int) (neg : Bool) (n d : ByteArray) (after : Int) (w : World) (h : op < 1 ∨ 8 < op) :
    Calls Tryz.prog 26 #[.agg #[.int .i64 op, .int .i64 A, .int .i64 B, .bool neg, .string n, .string d], .int .i64 after] w (Ret w (.bool false)) := by
  have t1 : (op == 1) = false := by rw [beq_eq_false_iff_ne]; omega
  have t2 : (op == 2) = false := by rw [beq_eq_false_iff_ne]; omega
  have t3 : (op == 3) = false := by rw [beq_eq_false_iff_ne]; omega
  have t4 : (op == 4) = false := by rw [beq_eq_false_iff_ne]; omega
  have t5 : (op == 5) = false := by rw [beq_eq_false_iff_ne]; omega
  have t6 : (op == 6) = false := by rw [beq_eq_false_iff_ne]; omega
  have t7 : (op == 7) = false := by rw [beq_eq_false_iff_ne]; omega
  have t8 : (op == 8) = false := by rw [beq_eq_false_iff_ne]; omega
  clear h
  go_enter Tryz.func26, Tryz.ntmps26
  go_wp2
  go_ret
  exact ⟨rfl, (Below.refl _ _).alloc (Nat.le_refl _) _⟩

theorem valid17_any (x : In) (after : Int) (w : World) : Calls Tryz.prog 26 #[inV x, .int .i64 after] w (Ret w (.bool (vldB x after))) := by
  obtain ⟨op, A, B, neg, n, d⟩ := x
  unfold inV vldB
  by_cases h : op < 1 ∨ 8 < op
  · simp only
    rw [if_neg (by omega), if_neg (by omega), if_neg (by omega), if_neg (by omega), if_neg (by omega), if_neg (by omega), if_neg (by omega), if_neg (by omega)]
    exact vld17_other op A B neg n d after w h
  · have h8 : op = 1 ∨ op = 2 ∨ op = 3 ∨ op = 4 ∨ op = 5 ∨ op = 6 ∨ op = 7 ∨ op = 8 := by omega
    rcases h8 with rfl | rfl | rfl | rfl | rfl | rfl | rfl | rfl
    · exact vld17_1 A B neg n d after w
    · exact vld17_2 A B neg n d after w
    · exact vld17_3 A B neg n d after w
    · exact vld17_4 A B neg n d after w
    · exact vld17_5 A B neg n d after w
    · exact vld17_6 A B neg n d after w
    · exact vld17_7 A B neg n d after w
    · exact vld17_8 A B neg n d after w
end Go.Proofs.YtoolanjbmbcaiaaGreatDoor
namespace Go.Proofs.YtoolanjbmbcaiaaGreatDoor
open Go.RowKit Bf

set_option maxRecDepth 100000 in
set_option maxHeartbeats 2000000 in
theorem check17_some (b off c : Nat) (l : List In) (w : World) (h : CodeAt w b off l) (h0 : 0 < l.length) (hl : l.length ≤ 4096) :
    Calls Tryz.prog 10 #[.slice (some ⟨b, off, none⟩) l.length c] w (Ret w (.int .i64 (progE l))) := by
  have H := Lib.hid h
  obtain ⟨n, hn⟩ : ∃ n, l.length = n := ⟨_, rfl⟩
  have HN := Lib.hid hn
  rw [hn] at h0 hl ⊢
  have hnot : ∀ (x : Bool) (w : World), (Op.unary .not (.bool x)).run Tryz.prog w = .ok (.bool (!x)) w := fun _ _ => rfl
  have t0 : ¬ (n : Int) < 1 := by omega
  have t1 : ¬ (4096 : Int) < (n : Int) := by omega
  clear h hn
  obtain ⟨x, hx⟩ : ∃ x, l[n - 1]? = some x := ⟨l[n - 1]'(by have := HN.out; omega), List.getElem?_eq_getElem (by have := HN.out; omega)⟩
  have c0 := (H.out.sp hx).1
  have HXL := Lib.hid hx
  clear hx
  have e1 : ((n : Int) - 1).toNat = n - 1 := by omega
  have hj0 : (0 : Int) ≤ (n : Int) - 1 := by omega
  by_cases h7 : x.op = 7
  · have HLA : Hid (x.op = 7 ∨ x.op = 8) := .inl h7
    rw [h7] at c0
    clear h7
    go_enter Tryz.func10, Tryz.ntmps10
    go_wp2
    clear c0
    go_loopw [4] (fun i wr => ∃ k : Nat, k ≤ n ∧ i = .int .i64 k ∧ Hid (∀ (i : Nat) (x : In), i < k → l[i]? = some x → vldB x ((n : Int) - 1 - i) = true) ∧ Below w.heap.size w wr) (fun i _ => n - (intOf i).toNat)
    case atStart => exact ⟨0, Nat.zero_le _, rfl, fun i x hi => by omega, Below.refl _ _⟩
    case round =>
      obtain ⟨k, hk, rfl, HV, hb⟩ := hrel
      have HB := Lib.hid hb
      clear hb
      by_cases hlt : k < n
      · obtain ⟨x, hx⟩ : ∃ x, l[k]? = some x := ⟨l[k]'(by have := HN.out; omega), List.getElem?_eq_getElem (by have := HN.out; omega)⟩
        obtain ⟨c0, c1, c2, c3, c4, c5⟩ := (H.out.below HB.out H.out.1).sp hx
        have HX := Lib.hid hx
        have HVA := Lib.hid (fun W => valid17_any x ((n : Int) - 1 - (k : Int)) W)
        unfold inV at HVA
        clear hx
        cases hv : vldB x ((n : Int) - 1 - (k : Int)) with
        | true =>
          have HF := Lib.hid hv
          rw [hv] at HVA
          clear hv
          go_wp2_with fail
          refine (HVA.out _).mono ?_
          rintro e w1 ⟨rfl, hb1⟩
          have HB1 := Lib.hid (HB.out.trans (hb1.mono HB.out.size))
          clear hb1
          go_wp2
          go_roundw
          case rel =>
            refine ⟨k + 1, by omega, by go_num, fun i y hi hy => ?_, HB1.out⟩
            by_cases e : i = k
            · subst e
              have := HX.out
              rw [hy] at this
              cases this
              exact HF.out
            · exact HV.out i y (by omega) hy
          case measure => simp [intOf]; omega
        | false =>
          have HF := Lib.hid (progE_no (l := l) (fun h => by have := h.2.2.1 k x HX.out; rw [HN.out, hv] at this; cases this))
          rw [hv] at HVA
          clear hv
          go_wp2_with fail
          refine (HVA.out _).mono ?_
          rintro e w1 ⟨rfl, hb1⟩
          have HB1 := Lib.hid (HB.out.trans (hb1.mono HB.out.size))
          clear hb1
          go_wp2
          go_ret
          exact ⟨by rw [HF.out]; rfl, HB1.out⟩
      · obtain rfl : k = n := by omega
        have HF := Lib.hid (progE_ok (l := l) ⟨by have := HN.out; omega, by have := HN.out; omega, fun i y hy => by rw [HN.out]; exact HV.out i y (by have := (List.getElem?_eq_some_iff.1 hy).1; have := HN.out; omega) hy, fun y hy => by rw [HN.out, HXL.out] at hy; cases hy; exact HLA.out⟩)
        go_wp2
        go_ret
        exact ⟨by rw [HF.out]; rfl, HB.out⟩
  · have t7 : (x.op != 7) = true := by rw [bne_iff_ne]; exact h7
    by_cases h8 : x.op = 8
    · have HLA : Hid (x.op = 7 ∨ x.op = 8) := .inr h8
      rw [h8] at c0
      clear h7 h8 t7
      go_enter Tryz.func10, Tryz.ntmps10
      go_wp2
      clear c0
      go_loopw [4] (fun i wr => ∃ k : Nat, k ≤ n ∧ i = .int .i64 k ∧ Hid (∀ (i : Nat) (x : In), i < k → l[i]? = some x → vldB x ((n : Int) - 1 - i) = true) ∧ Below w.heap.size w wr) (fun i _ => n - (intOf i).toNat)
      case atStart => exact ⟨0, Nat.zero_le _, rfl, fun i x hi => by omega, Below.refl _ _⟩
      case round =>
        obtain ⟨k, hk, rfl, HV, hb⟩ := hrel
        have HB := Lib.hid hb
        clear hb
        by_cases hlt : k < n
        · obtain ⟨x, hx⟩ : ∃ x, l[k]? = some x := ⟨l[k]'(by have := HN.out; omega), List.getElem?_eq_getElem (by have := HN.out; omega)⟩
          obtain ⟨c0, c1, c2, c3, c4, c5⟩ := (H.out.below HB.out H.out.1).sp hx
          have HX := Lib.hid hx
          have HVA := Lib.hid (fun W => valid17_any x ((n : Int) - 1 - (k : Int)) W)
          unfold inV at HVA
          clear hx
          cases hv : vldB x ((n : Int) - 1 - (k : Int)) with
          | true =>
            have HF := Lib.hid hv
            rw [hv] at HVA
            clear hv
            go_wp2_with fail
            refine (HVA.out _).mono ?_
            rintro e w1 ⟨rfl, hb1⟩
            have HB1 := Lib.hid (HB.out.trans (hb1.mono HB.out.size))
            clear hb1
            go_wp2
            go_roundw
            case rel =>
              refine ⟨k + 1, by omega, by go_num, fun i y hi hy => ?_, HB1.out⟩
              by_cases e : i = k
              · subst e
                have := HX.out
                rw [hy] at this
                cases this
                exact HF.out
              · exact HV.out i y (by omega) hy
            case measure => simp [intOf]; omega
          | false =>
            have HF := Lib.hid (progE_no (l := l) (fun h => by have := h.2.2.1 k x HX.out; rw [HN.out, hv] at this; cases this))
            rw [hv] at HVA
            clear hv
            go_wp2_with fail
            refine (HVA.out _).mono ?_
            rintro e w1 ⟨rfl, hb1⟩
            have HB1 := Lib.hid (HB.out.trans (hb1.mono HB.out.size))
            clear hb1
            go_wp2
            go_ret
            exact ⟨by rw [HF.out]; rfl, HB1.out⟩
        · obtain rfl : k = n := by omega
          have HF := Lib.hid (progE_ok (l := l) ⟨by have := HN.out; omega, by have := HN.out; omega, fun i y hy => by rw [HN.out]; exact HV.out i y (by have := (List.getElem?_eq_some_iff.1 hy).1; have := HN.out; omega) hy, fun y hy => by rw [HN.out, HXL.out] at hy; cases hy; exact HLA.out⟩)
          go_wp2
          go_ret
          exact ⟨by rw [HF.out]; rfl, HB.out⟩
    · have t8 : (x.op != 8) = true := by rw [bne_iff_ne]; exact h8
      have HF := Lib.hid (progE_no (l := l) (fun h => by have := h.2.2.2 x (by rw [HN.out]; exact HXL.out); omega))
      clear h7 h8
      go_enter Tryz.func10, Tryz.ntmps10
      go_wp2
      go_ret
      exact ⟨by rw [HF.out]; rfl, Below.refl _ _⟩
theorem check17_none (A : Option Addr) (c : Nat) (w : World) : Calls Tryz.prog 10 #[.slice A 0 c] w (Ret w (.int .i64 171)) := by
  go_enter Tryz.func10, Tryz.ntmps10
  go_wp2
  go_ret
  exact ⟨rfl, Below.refl _ _⟩
theorem check17_any {w : World} {v : Value} {l : List In} (h : CodeV w v l) (hl : l.length ≤ 4096) : Calls Tryz.prog 10 #[v] w (Ret w (.int .i64 (progE l))) := by
  obtain ⟨A, cap, rfl, h⟩ := h
  rcases Nat.eq_zero_or_pos l.length with h0 | h0
  · have hv : progE l = 171 := progE_no fun h => by have := h.1; omega
    rw [hv, h0]
    exact check17_none A cap w
  · rcases h with rfl | ⟨b, off, rfl, h⟩
    · simp at h0
    · exact check17_some b off cap l w h h0 hl
end Go.Proofs.YtoolanjbmbcaiaaGreatDoor
namespace Go.Proofs.YtoolanjbmbcaiaaGreatDoor
open Go.RowKit Bf

theorem below_drewN {b : Nat} {w W : World} (h : Below b w W) (n : Nat) : Below b w (W.drewN n) := h.trans ⟨rfl, rfl, rfl, Nat.le_refl _, fun _ _ => rfl⟩

set_option maxRecDepth 100000 in
set_option maxHeartbeats 2000000 in
theorem holds17_any (x : In) (A : Option Addr) (n cap : Nat) (c : List Int) (w : World) (h : IntsV w (.slice A n cap) c) (hn : c.length = n) (h0 : 0 < n) (hl : n ≤ 4096) (hA : -2 ≤ x.A) :
    Calls Tryz.prog 21 #[inV x, .slice A n cap] w (Ret w (.bool (holdsI c.dropLast (c.getLast?.getD 0) x))) := by
  obtain ⟨z, hz⟩ : ∃ z, c[n - 1]? = some z := ⟨c[n - 1]'(by omega), List.getElem?_eq_getElem (by omega)⟩
  have hday : c.getLast?.getD 0 = z := by
    rw [List.getLast?_eq_getElem?, hn, hz]; rfl
  rw [hday]
  obtain ⟨b, off, rfl, hb, hc⟩ := IntsV.nth h hz
  have HALL : Hid (∀ (i : Nat) (y : Int), c[i]? = some y → w.cell? ⟨b, off + i, none⟩ = some (.int .i64 y)) := fun i y hy => by
    obtain ⟨b', off', e, _, h'⟩ := IntsV.nth h hy
    cases e
    exact h'
  have HDL : Hid (∀ i : Nat, i < n - 1 → c.dropLast[i]? = c[i]?) := fun i hi => by
    rw [List.getElem?_dropLast, if_pos (by omega)]
  have HDG : Hid (∀ i : Nat, ¬ i < n - 1 → c.dropLast[i]? = none) := fun i hi => by
    rw [List.getElem?_dropLast, if_neg (by omega)]
  have e1 : ((n : Int) - 1).toNat = n - 1 := by omega
  have hj0 : (0 : Int) ≤ (n : Int) - 1 := by omega
  have HN := Lib.hid hn
  obtain ⟨op, A, B, neg, rn, rd⟩ := x
  unfold inV holdsI
  simp only at *
  clear h hz hday hn
  by_cases a1 : A = -1
  · subst a1
    rw [if_pos rfl]
    go_enter Tryz.func21, Tryz.ntmps21
    go_wp2
    go_ret
    exact ⟨by first | rfl | simp, (Below.refl _ _).alloc (Nat.le_refl _) _⟩
  rw [if_neg a1]
  have t1 : (A == -1) = false := by rw [beq_eq_false_iff_ne]; exact a1
  by_cases a2 : A = -2
  · subst a2
    rw [if_pos rfl]
    clear a1 t1
    go_enter Tryz.func21, Tryz.ntmps21
    go_wp2
    go_ret
    exact ⟨by first | rfl | simp, (Below.refl _ _).alloc (Nat.le_refl _) _⟩
  rw [if_neg a2]
  have t2 : (A == -2) = false := by rw [beq_eq_false_iff_ne]; exact a2
  obtain ⟨k, rfl⟩ : ∃ k : Nat, A = (k : Int) := ⟨A.toNat, by omega⟩
  rw [Int.toNat_natCast]
  have yw : IntKind.i64.wrap ((n : Int) - 1) = (n : Int) - 1 := by rw [IntKind.wrap_i64]; omega
  clear a1 a2 hA
  by_cases hk : k < n - 1
  · rw [HDL.out k hk]
    obtain ⟨y, hy⟩ : ∃ y, c[k]? = some y := ⟨c[k]'(by have := HN.out; omega), List.getElem?_eq_getElem (by have := HN.out; omega)⟩
    have hcy := HALL.out k y hy
    rw [hy]
    have u1 : decide ((k : Int) < (n : Int) - 1) = true := by simp; omega
    have u2 : (0 : Int) ≤ (k : Int) := by omega
    have u3 : (k : Int) < (n : Int) := by omega
    clear hy
    go_enter Tryz.func21, Tryz.ntmps21
    go_wp2
    go_quiet (fail)
    go_wp2
    go_ret
    exact ⟨by first | rfl | simp, below_drewN ((Below.refl _ _).alloc (Nat.le_refl _) _) _⟩
  · rw [HDG.out k hk]
    have u1 : decide ((k : Int) < (n : Int) - 1) = false := by simp; omega
    go_enter Tryz.func21, Tryz.ntmps21
    go_wp2
    go_quiet (fail)
    go_wp2
    go_ret
    exact ⟨by first | rfl | simp, below_drewN ((Below.refl _ _).alloc (Nat.le_refl _) _) _⟩
end Go.Proofs.YtoolanjbmbcaiaaGreatDoor
namespace Go.Proofs.YtoolanjbmbcaiaaGreatDoor
open Go.RowKit Bf

theorem owns_less {w : World} {B B' n size : Nat} {e : TypeId} {v : Value} {xs : List Value} (h : w.ownsRow B' e size v n xs) (hB : B ≤ B') : w.ownsRow B e size v n xs := by
  refine ⟨h.1, ?_⟩
  rcases h.2 with h0 | ⟨g, cap, cur, rfl, h1, h2⟩
  · exact .inl h0
  · exact .inr ⟨g, cap, cur, rfl, Nat.le_trans hB h1, h2⟩
theorem owns_ne_blk {w : World} {B n size k : Nat} {e t : TypeId} {v : Value} {xs cs : List Value} (h : w.ownsRow B e size v n xs) (hb : Blk w k cs t) (hne : t ≠ e) : ∀ g, v.ownBlock = some g → g ≠ k := by
  intro g hg hk
  rcases h.2 with ⟨rfl, _⟩ | ⟨g', cap, cur, rfl, h1, h2, _⟩
  · cases hg
  · have e1 : g' = g := Option.some.inj hg
    subst e1
    subst hk
    unfold Blk at hb
    rw [hb] at h2
    injection h2 with h2
    injection h2 with _ h2
    exact hne h2
theorem owns_ne_owns {w : World} {B n size B' n' size' : Nat} {e e' : TypeId} {v v' : Value} {xs xs' : List Value} (h : w.ownsRow B e size v n xs) (h' : w.ownsRow B' e' size' v' n' xs') (hne : e ≠ e') : ∀ g, v.ownBlock = some g → v'.ownBlock ≠ some g := by
  intro g hg hg'
  rcases h.2 with ⟨rfl, _⟩ | ⟨g1, cap, cur, rfl, h1, h2, _⟩
  · cases hg
  · have e1 : g1 = g := Option.some.inj hg
    subst e1
    rcases h'.2 with ⟨rfl, _⟩ | ⟨g2, cap', cur', rfl, h1', h2', _⟩
    · cases hg'
    · have e2 : g2 = g1 := Option.some.inj hg'
      subst e2
      rw [h2] at h2'
      injection h2' with h2'
      injection h2' with _ h2'
      exact hne h2'
theorem own_none (W : World) (t : TypeId) (size : Nat) : (W.alloc (.cells #[] t)).ownsRow W.heap.size t size (.slice (some ⟨W.heap.size, 0, none⟩) 0 0) 0 [] :=
  ⟨by simp, .inr ⟨_, _, #[], rfl, Nat.le_refl _, heap_alloc_new W _, Nat.le_refl _, by simp [maxLen], by simp, by simp⟩⟩

/-- A ratio's cells. -/
def ratC (r : Rt) : List Value := [.bool r.neg, .string (bs r.n), .string (bs r.d)]
/-- What holds at the head of each round. -/
structure SInv (w W : World) (kA kB : Nat) (l : List In) (ch : List Int) (day : Int) (amt : Rt) (R : Int × Mst) (s : Mst) (g : Nat) (uv wv : Value) : Prop where
  run : runI l ch day amt g s = R
  gas : l.length ≤ g + s.next
  lt : s.next < l.length
  bat : s.bat.ok
  pos : s.bat.neg = false
  lu : s.uses.length ≤ s.next
  lw : s.works.length ≤ s.next
  fl : s.fuel ≤ 9223372036854775807
  ru : W.ownsRow w.heap.size 58 6 uv s.uses.length (useC s.uses)
  rk : W.ownsRow w.heap.size 60 2 wv s.works.length (workC s.works)
  ka : Blk W kA (ratC amt) 25
  kb : Blk W kB (ratC s.bat) 25
  bel : Below w.heap.size w W

set_option maxRecDepth 100000 in
set_option maxHeartbeats 8000000 in
theorem run17_code (A A' : Option Addr) (cap cap' : Nat) (l : List In) (c : List Int) (neg : Bool) (n d : ByteArray) (fuel : Int) (w : World) (hv : CodeV w (.slice A l.length cap) l) (hc : IntsV w (.slice A' c.length cap') c) (hl : l.length ≤ 4096) (hno : ¬ progOk l) (hp : progE l = 171) :
    Calls Tryz.prog 8 #[.slice A l.length cap, .slice A' c.length cap', .agg #[.bool neg, .string n, .string d], .int .i64 fuel] w (RunRes w (runE l c neg n d fuel)) := by
  have HC := Lib.hid hv
  have HI := Lib.hid hc
  clear hv hc
  go_enter Tryz.func8, Tryz.ntmps8
  have K : Hid (Blk (w.alloc (.cells #[.bool neg, .string n, .string d] 25)) (w.heap.size) [.bool neg, .string n, .string d] 25) := by
    have := Blk.new w [.bool neg, .string n, .string d] 25
    exact this
  go_wp2_with fail
  refine (check17_any (HC.out.below ((Below.refl _ _).alloc (Nat.le_refl _) (.cells #[.bool neg, .string n, .string d] 25))) hl).mono ?_
  rw [hp]
  rintro e w1 ⟨rfl, hb⟩
  have HB_1 := Lib.hid (((Below.refl w.heap.size w).alloc (Below.refl w.heap.size w).size (.cells #[.bool neg, .string n, .string d] 25)).trans (hb.mono ((Below.refl w.heap.size w).alloc (Below.refl w.heap.size w).size (.cells #[.bool neg, .string n, .string d] 25)).size))
  have C_1 := Lib.hid ((HC.out.below ((Below.refl _ _).alloc (Nat.le_refl _) (.cells #[.bool neg, .string n, .string d] 25))).below hb)
  have I_1 := Lib.hid ((HI.out.below ((Below.refl _ _).alloc (Nat.le_refl _) (.cells #[.bool neg, .string n, .string d] 25))).below hb)
  have K_1 := Lib.hid (K.out.below hb K.out.lt)
  clear hb
  have hR := runE_code (l := l) hno c neg n d fuel
  go_wp2
  exact bodyPost_ret (v := .tuple #[.slice none 0 0, .slice none 0 0, .int .i64 0, .int .i64 0, .int .i64 171]) (by simp [results, Tryz.results8, go_sem]) rfl ⟨HB_1.out, .inr ⟨by rw [hR]; simp, by rw [hR]⟩⟩

set_option maxRecDepth 100000 in
set_option maxHeartbeats 8000000 in
theorem run17_rat (A A' : Option Addr) (cap cap' : Nat) (l : List In) (c : List Int) (neg : Bool) (n d : ByteArray) (fuel : Int) (w : World) (hv : CodeV w (.slice A l.length cap) l) (hc : IntsV w (.slice A' c.length cap') c) (hl : l.length ≤ 4096) (hok : progOk l) (hp : progE l = 0) (hr : ¬ RatS neg n d) :
    Calls Tryz.prog 8 #[.slice A l.length cap, .slice A' c.length cap', .agg #[.bool neg, .string n, .string d], .int .i64 fuel] w (RunRes w (runE l c neg n d fuel)) := by
  have HC := Lib.hid hv
  have HI := Lib.hid hc
  clear hv hc
  go_enter Tryz.func8, Tryz.ntmps8
  have K : Hid (Blk (w.alloc (.cells #[.bool neg, .string n, .string d] 25)) (w.heap.size) [.bool neg, .string n, .string d] 25) := by
    have := Blk.new w [.bool neg, .string n, .string d] 25
    exact this
  go_wp2_with fail
  refine (check17_any (HC.out.below ((Below.refl _ _).alloc (Nat.le_refl _) (.cells #[.bool neg, .string n, .string d] 25))) hl).mono ?_
  rw [hp]
  rintro e w1 ⟨rfl, hb⟩
  have HB_1 := Lib.hid (((Below.refl w.heap.size w).alloc (Below.refl w.heap.size w).size (.cells #[.bool neg, .string n, .string d] 25)).trans (hb.mono ((Below.refl w.heap.size w).alloc (Below.refl w.heap.size w).size (.cells #[.bool neg, .string n, .string d] 25)).size))
  have C_1 := Lib.hid ((HC.out.below ((Below.refl _ _).alloc (Nat.le_refl _) (.cells #[.bool neg, .string n, .string d] 25))).below hb)
  have I_1 := Lib.hid ((HI.out.below ((Below.refl _ _).alloc (Nat.le_refl _) (.cells #[.bool neg, .string n, .string d] 25))).below hb)
  have K_1 := Lib.hid (K.out.below hb K.out.lt)
  clear hb
  obtain ⟨q0, _⟩ := K_1.out.at 0 _ rfl
  obtain ⟨q1, _⟩ := K_1.out.at 1 _ rfl
  obtain ⟨q2, _⟩ := K_1.out.at 2 _ rfl
  have hk := K_1.out.lt
  go_wp2_with fail
  refine (check07_any neg n d _).mono ?_
  rw [rchk_no hr]
  rintro e w2 ⟨rfl, hb⟩
  have HB_2 := Lib.hid (HB_1.out.trans (hb.mono HB_1.out.size))
  have C_2 := Lib.hid (C_1.out.below hb)
  have I_2 := Lib.hid (I_1.out.below hb)
  have K_2 := Lib.hid (K_1.out.below hb K_1.out.lt)
  clear hb
  clear q0 q1 q2 hk
  have hR := runE_rat hok c hr fuel
  go_wp2
  exact bodyPost_ret (v := .tuple #[.slice none 0 0, .slice none 0 0, .int .i64 0, .int .i64 0, .int .i64 70]) (by simp [results, Tryz.results8, go_sem]) rfl ⟨HB_2.out, .inr ⟨by rw [hR]; simp, by rw [hR]⟩⟩

set_option maxRecDepth 100000 in
set_option maxHeartbeats 8000000 in
theorem run17_neg (A A' : Option Addr) (cap cap' : Nat) (l : List In) (c : List Int) (neg : Bool) (n d : ByteArray) (fuel : Int) (w : World) (hv : CodeV w (.slice A l.length cap) l) (hc : IntsV w (.slice A' c.length cap') c) (hl : l.length ≤ 4096) (hok : progOk l) (hp : progE l = 0) (hr : RatS neg n d) (hneg : neg = true) :
    Calls Tryz.prog 8 #[.slice A l.length cap, .slice A' c.length cap', .agg #[.bool neg, .string n, .string d], .int .i64 fuel] w (RunRes w (runE l c neg n d fuel)) := by
  have HC := Lib.hid hv
  have HI := Lib.hid hc
  clear hv hc
  subst hneg
  go_enter Tryz.func8, Tryz.ntmps8
  have K : Hid (Blk (w.alloc (.cells #[.bool true, .string n, .string d] 25)) (w.heap.size) [.bool true, .string n, .string d] 25) := by
    have := Blk.new w [.bool true, .string n, .string d] 25
    exact this
  go_wp2_with fail
  refine (check17_any (HC.out.below ((Below.refl _ _).alloc (Nat.le_refl _) (.cells #[.bool true, .string n, .string d] 25))) hl).mono ?_
  rw [hp]
  rintro e w1 ⟨rfl, hb⟩
  have HB_1 := Lib.hid (((Below.refl w.heap.size w).alloc (Below.refl w.heap.size w).size (.cells #[.bool true, .string n, .string d] 25)).trans (hb.mono ((Below.refl w.heap.size w).alloc (Below.refl w.heap.size w).size (.cells #[.bool true, .string n, .string d] 25)).size))
  have C_1 := Lib.hid ((HC.out.below ((Below.refl _ _).alloc (Nat.le_refl _) (.cells #[.bool true, .string n, .string d] 25))).below hb)
  have I_1 := Lib.hid ((HI.out.below ((Below.refl _ _).alloc (Nat.le_refl _) (.cells #[.bool true, .string n, .string d] 25))).below hb)
  have K_1 := Lib.hid (K.out.below hb K.out.lt)
  clear hb
  obtain ⟨q0, _⟩ := K_1.out.at 0 _ rfl
  obtain ⟨q1, _⟩ := K_1.out.at 1 _ rfl
  obtain ⟨q2, _⟩ := K_1.out.at 2 _ rfl
  have hk := K_1.out.lt
  go_wp2_with fail
  refine (check07_any true n d _).mono ?_
  rw [rchk_ok hr]
  rintro e w2 ⟨rfl, hb⟩
  have HB_2 := Lib.hid (HB_1.out.trans (hb.mono HB_1.out.size))
  have C_2 := Lib.hid (C_1.out.below hb)
  have I_2 := Lib.hid (I_1.out.below hb)
  have K_2 := Lib.hid (K_1.out.below hb K_1.out.lt)
  clear hb
  clear q0 q1 q2 hk
  have hR := runE_arg hok hr (fuel := fuel) (c := c) (.inl rfl)
  obtain ⟨q0, _⟩ := K_2.out.at 0 _ rfl
  obtain ⟨q1, _⟩ := K_2.out.at 1 _ rfl
  obtain ⟨q2, _⟩ := K_2.out.at 2 _ rfl
  have hk := K_2.out.lt
  go_wp2
  exact bodyPost_ret (v := .tuple #[.slice none 0 0, .slice none 0 0, .int .i64 0, .int .i64 0, .int .i64 1]) (by simp [results, Tryz.results8, go_sem]) rfl ⟨HB_2.out, .inr ⟨by rw [hR]; simp, by rw [hR]⟩⟩

set_option maxRecDepth 100000 in
set_option maxHeartbeats 8000000 in
theorem run17_empty (A A' : Option Addr) (cap cap' : Nat) (l : List In) (c : List Int) (neg : Bool) (n d : ByteArray) (fuel : Int) (w : World) (hv : CodeV w (.slice A l.length cap) l) (hc : IntsV w (.slice A' c.length cap') c) (hl : l.length ≤ 4096) (hok : progOk l) (hp : progE l = 0) (hr : RatS neg n d) (hneg : neg = false) (hc0 : c = []) :
    Calls Tryz.prog 8 #[.slice A l.length cap, .slice A' c.length cap', .agg #[.bool neg, .string n, .string d], .int .i64 fuel] w (RunRes w (runE l c neg n d fuel)) := by
  have HC := Lib.hid hv
  have HI := Lib.hid hc
  clear hv hc
  subst hneg
  go_enter Tryz.func8, Tryz.ntmps8
  have K : Hid (Blk (w.alloc (.cells #[.bool false, .string n, .string d] 25)) (w.heap.size) [.bool false, .string n, .string d] 25) := by
    have := Blk.new w [.bool false, .string n, .string d] 25
    exact this
  go_wp2_with fail
  refine (check17_any (HC.out.below ((Below.refl _ _).alloc (Nat.le_refl _) (.cells #[.bool false, .string n, .string d] 25))) hl).mono ?_
  rw [hp]
  rintro e w1 ⟨rfl, hb⟩
  have HB_1 := Lib.hid (((Below.refl w.heap.size w).alloc (Below.refl w.heap.size w).size (.cells #[.bool false, .string n, .string d] 25)).trans (hb.mono ((Below.refl w.heap.size w).alloc (Below.refl w.heap.size w).size (.cells #[.bool false, .string n, .string d] 25)).size))
  have C_1 := Lib.hid ((HC.out.below ((Below.refl _ _).alloc (Nat.le_refl _) (.cells #[.bool false, .string n, .string d] 25))).below hb)
  have I_1 := Lib.hid ((HI.out.below ((Below.refl _ _).alloc (Nat.le_refl _) (.cells #[.bool false, .string n, .string d] 25))).below hb)
  have K_1 := Lib.hid (K.out.below hb K.out.lt)
  clear hb
  obtain ⟨q0, _⟩ := K_1.out.at 0 _ rfl
  obtain ⟨q1, _⟩ := K_1.out.at 1 _ rfl
  obtain ⟨q2, _⟩ := K_1.out.at 2 _ rfl
  have hk := K_1.out.lt
  go_wp2_with fail
  refine (check07_any false n d _).mono ?_
  rw [rchk_ok hr]
  rintro e w2 ⟨rfl, hb⟩
  have HB_2 := Lib.hid (HB_1.out.trans (hb.mono HB_1.out.size))
  have C_2 := Lib.hid (C_1.out.below hb)
  have I_2 := Lib.hid (I_1.out.below hb)
  have K_2 := Lib.hid (K_1.out.below hb K_1.out.lt)
  clear hb
  clear q0 q1 q2 hk
  have hR := runE_arg hok hr (fuel := fuel) (c := c) (.inr (.inl hc0))
  have h0 : c.length = 0 := by rw [hc0]; rfl
  have t1 : (c.length : Int) < 1 := by omega
  obtain ⟨q0, _⟩ := K_2.out.at 0 _ rfl
  obtain ⟨q1, _⟩ := K_2.out.at 1 _ rfl
  obtain ⟨q2, _⟩ := K_2.out.at 2 _ rfl
  have hk := K_2.out.lt
  go_wp2
  exact bodyPost_ret (v := .tuple #[.slice none 0 0, .slice none 0 0, .int .i64 0, .int .i64 0, .int .i64 1]) (by simp [results, Tryz.results8, go_sem]) rfl ⟨HB_2.out, .inr ⟨by rw [hR]; simp, by rw [hR]⟩⟩

set_option maxRecDepth 100000 in
set_option maxHeartbeats 8000000 in
theorem run17_fuel (A A' : Option Addr) (cap cap' : Nat) (l : List In) (c : List Int) (neg : Bool) (n d : ByteArray) (fuel : Int) (w : World) (hv : CodeV w (.slice A l.length cap) l) (hc : IntsV w (.slice A' c.length cap') c) (hl : l.length ≤ 4096) (hok : progOk l) (hp : progE l = 0) (hr : RatS neg n d) (hneg : neg = false) (hc0 : 0 < c.length) (hf : fuel < 0) :
    Calls Tryz.prog 8 #[.slice A l.length cap, .slice A' c.length cap', .agg #[.bool neg, .string n, .string d], .int .i64 fuel] w (RunRes w (runE l c neg n d fuel)) := by
  have HC := Lib.hid hv
  have HI := Lib.hid hc
  clear hv hc
  subst hneg
  go_enter Tryz.func8, Tryz.ntmps8
  have K : Hid (Blk (w.alloc (.cells #[.bool false, .string n, .string d] 25)) (w.heap.size) [.bool false, .string n, .string d] 25) := by
    have := Blk.new w [.bool false, .string n, .string d] 25
    exact this
  go_wp2_with fail
  refine (check17_any (HC.out.below ((Below.refl _ _).alloc (Nat.le_refl _) (.cells #[.bool false, .string n, .string d] 25))) hl).mono ?_
  rw [hp]
  rintro e w1 ⟨rfl, hb⟩
  have HB_1 := Lib.hid (((Below.refl w.heap.size w).alloc (Below.refl w.heap.size w).size (.cells #[.bool false, .string n, .string d] 25)).trans (hb.mono ((Below.refl w.heap.size w).alloc (Below.refl w.heap.size w).size (.cells #[.bool false, .string n, .string d] 25)).size))
  have C_1 := Lib.hid ((HC.out.below ((Below.refl _ _).alloc (Nat.le_refl _) (.cells #[.bool false, .string n, .string d] 25))).below hb)
  have I_1 := Lib.hid ((HI.out.below ((Below.refl _ _).alloc (Nat.le_refl _) (.cells #[.bool false, .string n, .string d] 25))).below hb)
  have K_1 := Lib.hid (K.out.below hb K.out.lt)
  clear hb
  obtain ⟨q0, _⟩ := K_1.out.at 0 _ rfl
  obtain ⟨q1, _⟩ := K_1.out.at 1 _ rfl
  obtain ⟨q2, _⟩ := K_1.out.at 2 _ rfl
  have hk := K_1.out.lt
  go_wp2_with fail
  refine (check07_any false n d _).mono ?_
  rw [rchk_ok hr]
  rintro e w2 ⟨rfl, hb⟩
  have HB_2 := Lib.hid (HB_1.out.trans (hb.mono HB_1.out.size))
  have C_2 := Lib.hid (C_1.out.below hb)
  have I_2 := Lib.hid (I_1.out.below hb)
  have K_2 := Lib.hid (K_1.out.below hb K_1.out.lt)
  clear hb
  clear q0 q1 q2 hk
  have hR := runE_arg hok hr (fuel := fuel) (c := c) (.inr (.inr hf))
  have t1 : ¬ (c.length : Int) < 1 := by omega
  obtain ⟨q0, _⟩ := K_2.out.at 0 _ rfl
  obtain ⟨q1, _⟩ := K_2.out.at 1 _ rfl
  obtain ⟨q2, _⟩ := K_2.out.at 2 _ rfl
  have hk := K_2.out.lt
  go_wp2
  exact bodyPost_ret (v := .tuple #[.slice none 0 0, .slice none 0 0, .int .i64 0, .int .i64 0, .int .i64 1]) (by simp [results, Tryz.results8, go_sem]) rfl ⟨HB_2.out, .inr ⟨by rw [hR]; simp, by rw [hR]⟩⟩

end Go.Proofs.YtoolanjbmbcaiaaGreatDoor
