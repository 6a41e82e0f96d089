/- Contracts of package ratios: crossed, plus, Add: sums of numbers of one sign, nothing too long. -/
import Derived.Test.YtiohceaddojedaaGreatDoorGb
import Derived.Test.YtiohceaddojedaaGreatDoorNx
namespace Go.Proofs.YtiohceaddojedaaGreatDoor
open Go.RowKit Bf

/-- Two numbers lie in two blocks from the heap's end on. -/
def NumT (w : World) (an bn : Bool) (xn xd yn yd : ByteArray) (w' : World) : Prop :=
  w'.cell? ⟨w.heap.size, 0, none⟩ = some (.bool an) ∧ w'.cell? ⟨w.heap.size, 1, none⟩ = some (.string xn) ∧ w'.cell? ⟨w.heap.size, 2, none⟩ = some (.string xd) ∧
  w'.cell? ⟨w.heap.size + 1, 0, none⟩ = some (.bool bn) ∧ w'.cell? ⟨w.heap.size + 1, 1, none⟩ = some (.string yn) ∧ w'.cell? ⟨w.heap.size + 1, 2, none⟩ = some (.string yd) ∧
  w.heap.size + 2 ≤ w'.heap.size ∧ Below w.heap.size w w'
theorem NumT.next {w W W' : World} {an bn : Bool} {xn xd yn yd : ByteArray} (h : NumT w an bn xn xd yn yd W) (hb : Below W.heap.size W W') : NumT w an bn xn xd yn yd W' := by
  obtain ⟨h1, h2, h3, h4, h5, h6, h7, h8⟩ := h
  refine ⟨?_, ?_, ?_, ?_, ?_, ?_, Nat.le_trans h7 hb.size, h8.trans (hb.mono (by omega))⟩
  · exact (hb.cell (p := ⟨w.heap.size, 0, none⟩) (by simp; omega)).trans h1
  · exact (hb.cell (p := ⟨w.heap.size, 1, none⟩) (by simp; omega)).trans h2
  · exact (hb.cell (p := ⟨w.heap.size, 2, none⟩) (by simp; omega)).trans h3
  · exact (hb.cell (p := ⟨w.heap.size + 1, 0, none⟩) (by simp; omega)).trans h4
  · exact (hb.cell (p := ⟨w.heap.size + 1, 1, none⟩) (by simp; omega)).trans h5
  · exact (hb.cell (p := ⟨w.heap.size + 1, 2, none⟩) (by simp; omega)).trans h6

set_option maxRecDepth 100000 in
set_option maxHeartbeats 2000000 in
theorem crossed_ok (an bn : Bool) (x y x' y' : Nat) (w : World) (hx : x < LIM) (hy : y < LIM) (hx' : x' < LIM) (hy' : y' < LIM) (h1 : x * y' < LIM) (h2 : x' * y < LIM) :
    Calls Tryz.prog 86 #[.agg #[.bool an, .string (bs x), .string (bs y)], .agg #[.bool bn, .string (bs x'), .string (bs y')]] w (Ret w (.tuple #[.string (bs (x * y')), .string (bs (x' * y))])) := by
  have e1 : shortV (x * y') = .tuple #[.string (bs (x * y')), .int .i64 0] := if_pos h1
  have e2 : shortV (x' * y) = .tuple #[.string (bs (x' * y)), .int .i64 0] := if_pos h2
  have HM1 := Lib.hid (fun W => mul_ok (bs x) (bs y') W (short_of hx) (short_of hy'))
  have HM2 := Lib.hid (fun W => mul_ok (bs x') (bs y) W (short_of hx') (short_of hy))
  simp only [bv_bs] at HM1 HM2
  rw [e1] at HM1
  rw [e2] at HM2
  clear e1 e2 hx hy hx' hy' h1 h2
  generalize bs (x * y') = sx at *
  generalize bs (x' * y) = sy at *
  generalize bs x = xn at *
  generalize bs y = xd at *
  generalize bs x' = yn at *
  generalize bs y' = yd at *
  go_enter Tryz.func86, Tryz.ntmps86
  go_wp2
  obtain ⟨W0, hW0⟩ : ∃ W0, (w.alloc (.cells #[.bool an, .string xn, .string xd] 82)).alloc (.cells #[.bool bn, .string yn, .string yd] 82) = W0 := ⟨_, rfl⟩
  have S0 : NumT w an bn xn xd yn yd W0.drew := by
    rw [← hW0]
    refine ⟨by simp [go_sem], by simp [go_sem], by simp [go_sem], by simp [go_sem], by simp [go_sem], by simp [go_sem], by simp [go_sem], ?_⟩
    exact (((Below.refl w.heap.size w).alloc (Nat.le_refl _) _).alloc (by simp) _).drew
  rw [hW0]
  clear hW0
  -- <crossed>
  refine wp_region_held_drew (S := (fun w' => w'.cell? ⟨w.heap.size, 0, none⟩ = some (.bool an) ∧ w'.cell? ⟨w.heap.size, 1, none⟩ = some (.string xn) ∧ w'.cell? ⟨w.heap.size, 2, none⟩ = some (.string xd) ∧ w'.cell? ⟨w.heap.size + 1, 0, none⟩ = some (.bool bn) ∧ w'.cell? ⟨w.heap.size + 1, 1, none⟩ = some (.string yn) ∧ w'.cell? ⟨w.heap.size + 1, 2, none⟩ = some (.string yd) ∧ w.heap.size + 2 ≤ w'.heap.size ∧ Below w.heap.size w w')) (by kernel_rfl) ?_ (fun hHeld => ?_)
  · exact S0
  refine rp_take (i := 0) (v := ?_) rfl (by kernel_rfl) (by kernel_rfl) (by kernel_rfl) (by rfl) (by assumption) ?_ (by exact fun _ _ _ h => h) ?_
  rotate_left
  · (intro w hSw; (try dsimp only at hSw); go_simp; try (with_reducible rfl))
  (try simp only [Act.put, List.setIfInBounds_toArray, List.set_cons_zero, List.set_cons_succ])
  refine rp_take (i := 1) (v := ?_) rfl (by kernel_rfl) (by kernel_rfl) (by kernel_rfl) (by rfl) (by assumption) ?_ (by exact fun _ _ _ h => h) ?_
  rotate_left
  · (intro w hSw; (try dsimp only at hSw); go_simp; try (with_reducible rfl))
  (try simp only [Act.put, List.setIfInBounds_toArray, List.set_cons_zero, List.set_cons_succ])
  refine rp_take (i := 2) (v := ?_) rfl (by kernel_rfl) (by kernel_rfl) (by kernel_rfl) (by rfl) (by assumption) ?_ (by exact fun _ _ _ h => h) ?_
  rotate_left
  · (intro w hSw; (try dsimp only at hSw); go_simp; try (with_reducible rfl))
  (try simp only [Act.put, List.setIfInBounds_toArray, List.set_cons_zero, List.set_cons_succ])
  refine rp_take (i := 3) (v := ?_) rfl (by kernel_rfl) (by kernel_rfl) (by kernel_rfl) (by rfl) (by assumption) ?_ (by exact fun _ _ _ h => h) ?_
  rotate_left
  · (intro w hSw; (try dsimp only at hSw); go_simp; try (with_reducible rfl))
  (try simp only [Act.put, List.setIfInBounds_toArray, List.set_cons_zero, List.set_cons_succ])
  refine rp_take (i := 8) (v := ?_) rfl (by kernel_rfl) (by kernel_rfl) (by kernel_rfl) (by rfl) (by assumption) ?_ (by exact fun _ _ _ h => h) ?_
  rotate_left
  · (intro w hSw; (try dsimp only at hSw); go_simp; try (with_reducible rfl))
  (try simp only [Act.put, List.setIfInBounds_toArray, List.set_cons_zero, List.set_cons_succ])
  refine rp_take (i := 9) (v := ?_) rfl (by kernel_rfl) (by kernel_rfl) (by kernel_rfl) (by rfl) (by assumption) ?_ (by exact fun _ _ _ h => h) ?_
  rotate_left
  · (intro w hSw; (try dsimp only at hSw); go_simp; try (with_reducible rfl))
  (try simp only [Act.put, List.setIfInBounds_toArray, List.set_cons_zero, List.set_cons_succ])
  refine rp_take (i := 10) (v := ?_) rfl (by kernel_rfl) (by kernel_rfl) (by kernel_rfl) (by rfl) (by assumption) ?_ (by exact fun _ _ _ h => h) ?_
  rotate_left
  · (intro w hSw; (try dsimp only at hSw); go_simp; try (with_reducible rfl))
  (try simp only [Act.put, List.setIfInBounds_toArray, List.set_cons_zero, List.set_cons_succ])
  refine rp_take (i := 11) (v := ?_) rfl (by kernel_rfl) (by kernel_rfl) (by kernel_rfl) (by rfl) (by assumption) ?_ (by exact fun _ _ _ h => h) ?_
  rotate_left
  · (intro w hSw; (try dsimp only at hSw); go_simp; try (with_reducible rfl))
  (try simp only [Act.put, List.setIfInBounds_toArray, List.set_cons_zero, List.set_cons_succ])
  refine wpAnyH_ready (rs := [4]) (by kernel_rfl) (by simp) ?_
  refine rh_cons (i := 4) rfl (fun K hK => ?_) ?_
  · go_simp
    refine (HM1.out _).mono ?_
    rintro e w1 ⟨rfl, hb1⟩
    have S1 := NumT.next hHeld hb1
    go_wp2_with fail
    refine hK.out _ _ ?_ (fun hHeld => ?_)
    · (try dsimp only)
      exact S1
    clear hK K
    (try simp only [Act.put, List.setIfInBounds_toArray, List.set_cons_zero, List.set_cons_succ])
    refine rp_take (i := 5) (v := ?_) rfl (by kernel_rfl) (by kernel_rfl) (by kernel_rfl) (by rfl) (by assumption) ?_ (by exact fun _ _ _ h => h) ?_
    rotate_left
    · (intro w hSw; (try dsimp only at hSw); go_simp; try (with_reducible rfl))
    (try simp only [Act.put, List.setIfInBounds_toArray, List.set_cons_zero, List.set_cons_succ])
    refine rp_take (i := 6) (v := ?_) rfl (by kernel_rfl) (by kernel_rfl) (by kernel_rfl) (by rfl) (by assumption) ?_ (by exact fun _ _ _ h => h) ?_
    rotate_left
    · (intro w hSw; (try dsimp only at hSw); go_simp; try (with_reducible rfl))
    (try simp only [Act.put, List.setIfInBounds_toArray, List.set_cons_zero, List.set_cons_succ])
    refine wpAnyH_ready (rs := [7]) (by kernel_rfl) (by simp) ?_
    refine rh_cons (i := 7) rfl (fun K hK => ?_) ?_
    · go_simp
      refine (must_ok _ _).mono ?_
      rintro e w1 ⟨rfl, rfl⟩
      have S1 := hHeld
      go_wp2_with fail
      refine hK.out _ _ ?_ (fun hHeld => ?_)
      · (try dsimp only)
        exact S1
      clear hK K
      (try simp only [Act.put, List.setIfInBounds_toArray, List.set_cons_zero, List.set_cons_succ])
      refine wpAnyH_ready (rs := [12]) (by kernel_rfl) (by simp) ?_
      refine rh_cons (i := 12) rfl (fun K hK => ?_) ?_
      · go_simp
        refine (HM2.out _).mono ?_
        rintro e w1 ⟨rfl, hb1⟩
        have S1 := NumT.next hHeld hb1
        go_wp2_with fail
        refine hK.out _ _ ?_ (fun hHeld => ?_)
        · (try dsimp only)
          exact S1
        clear hK K
        (try simp only [Act.put, List.setIfInBounds_toArray, List.set_cons_zero, List.set_cons_succ])
        refine rp_take (i := 13) (v := ?_) rfl (by kernel_rfl) (by kernel_rfl) (by kernel_rfl) (by rfl) (by assumption) ?_ (by exact fun _ _ _ h => h) ?_
        rotate_left
        · (intro w hSw; (try dsimp only at hSw); go_simp; try (with_reducible rfl))
        (try simp only [Act.put, List.setIfInBounds_toArray, List.set_cons_zero, List.set_cons_succ])
        refine rp_take (i := 14) (v := ?_) rfl (by kernel_rfl) (by kernel_rfl) (by kernel_rfl) (by rfl) (by assumption) ?_ (by exact fun _ _ _ h => h) ?_
        rotate_left
        · (intro w hSw; (try dsimp only at hSw); go_simp; try (with_reducible rfl))
        (try simp only [Act.put, List.setIfInBounds_toArray, List.set_cons_zero, List.set_cons_succ])
        refine wpAnyH_ready (rs := [15]) (by kernel_rfl) (by simp) ?_
        refine rh_cons (i := 15) rfl (fun K hK => ?_) ?_
        · go_simp
          refine (must_ok _ _).mono ?_
          rintro e w1 ⟨rfl, rfl⟩
          have S1 := hHeld
          go_wp2_with fail
          refine hK.out _ _ ?_ (fun hHeld => ?_)
          · (try dsimp only)
            exact S1
          clear hK K
          (try simp only [Act.put, List.setIfInBounds_toArray, List.set_cons_zero, List.set_cons_succ])
          refine rp_take (i := 16) (v := ?_) rfl (by kernel_rfl) (by kernel_rfl) (by kernel_rfl) (by rfl) (by assumption) ?_ (by exact fun _ _ _ h => h) ?_
          rotate_left
          · (intro w hSw; (try dsimp only at hSw); go_simp; try (with_reducible rfl))
          (try simp only [Act.put, List.setIfInBounds_toArray, List.set_cons_zero, List.set_cons_succ])
          refine rp_take (i := 17) (v := ?_) rfl (by kernel_rfl) (by kernel_rfl) (by kernel_rfl) (by rfl) (by assumption) ?_ (by exact fun _ _ _ h => h) ?_
          rotate_left
          · (intro w hSw; (try dsimp only at hSw); go_simp; try (with_reducible rfl))
          (try simp only [Act.put, List.setIfInBounds_toArray, List.set_cons_zero, List.set_cons_succ])
          refine wpAnyH_done (by kernel_rfl) ?_ _
          go_wp2
          go_ret2
          exact ⟨rfl, S1.2.2.2.2.2.2.2⟩
        exact AllReadyH.nil
      exact AllReadyH.nil
    exact AllReadyH.nil
  exact AllReadyH.nil
  -- </crossed>

set_option maxRecDepth 100000 in
set_option maxHeartbeats 4000000 in
theorem plus_ok (an : Bool) (x y x' y' : Nat) (w : World) (hx : x < LIM) (hy : y < LIM) (hx' : x' < LIM) (hy' : y' < LIM) (h1 : x * y' + x' * y < LIM) (h2 : y * y' < LIM) :
    Calls Tryz.prog 61 #[.agg #[.bool an, .string (bs x), .string (bs y)], .agg #[.bool an, .string (bs x'), .string (bs y')]] w (Ret w (.agg #[.bool an, .string (bs (x * y' + x' * y)), .string (bs (y * y'))])) := by
  have HX := Lib.hid (fun W => crossed_ok an an x y x' y' W hx hy hx' hy' (by omega) (by omega))
  have e2 : shortV (y * y') = .tuple #[.string (bs (y * y')), .int .i64 0] := if_pos h2
  have HM := Lib.hid (fun W => mul_ok (bs y) (bs y') W (short_of hy) (short_of hy'))
  simp only [bv_bs] at HM
  rw [e2] at HM
  have e3 : shortV (x * y' + x' * y) = .tuple #[.string (bs (x * y' + x' * y)), .int .i64 0] := if_pos h1
  have HA := Lib.hid (fun W => add_ok (bs (x * y')) (bs (x' * y)) W (short_of (by omega)) (short_of (by omega)))
  simp only [bv_bs] at HA
  rw [e3] at HA
  clear e2 e3 hx hy hx' hy' h1 h2
  generalize bs (x * y' + x' * y) = sx at *
  generalize bs (y * y') = sy at *
  generalize bs (x * y') = sa at *
  generalize bs (x' * y) = sb at *
  generalize bs x = xn at *
  generalize bs y = xd at *
  generalize bs x' = yn at *
  generalize bs y' = yd at *
  go_enter Tryz.func61, Tryz.ntmps61
  go_wp2_with fail
  obtain ⟨W0, hW0⟩ : ∃ W0, ((w.alloc (.cells #[.bool an, .string xn, .string xd] 82)).alloc (.cells #[.bool an, .string yn, .string yd] 82)).alloc (.cells #[.bool false, .string ⟨#[]⟩, .string ⟨#[]⟩] 82) = W0 := ⟨_, rfl⟩
  have S0 : Hid (NumS w an an xn xd yn yd W0) := by
    rw [← hW0]
    refine ⟨by simp [go_sem], by simp [go_sem], by simp [go_sem], by simp [go_sem], by simp [go_sem], by simp [go_sem], by simp [go_sem], ?_⟩
    exact (((Below.refl w.heap.size w).alloc (Nat.le_refl _) _).alloc (by simp) _).alloc (by simp; omega) _
  have R0 : Hid (NumR w W0) := by
    refine ⟨.bool false, .string ⟨#[]⟩, .string ⟨#[]⟩, ?_⟩
    rw [← hW0]
    have e := World.alloc_heap_new ((w.alloc (.cells #[.bool an, .string xn, .string xd] 82)).alloc (.cells #[.bool an, .string yn, .string yd] 82)) (.cells #[.bool false, .string ⟨#[]⟩, .string ⟨#[]⟩] 82)
    rwa [World.size_alloc, World.size_alloc] at e
  rw [hW0]
  clear hW0
  refine (HX.out _).mono ?_
  rintro e w1 ⟨rfl, hb1⟩
  have S1 := Lib.hid (S0.out.next hb1)
  have R1 := Lib.hid (R0.out.next S0.out hb1)
  clear hb1 S0 R0
  obtain ⟨c0, c1, c2, d0, d1, d2, hsz, _⟩ := S1.out
  go_wp2_with fail
  refine (HM.out _).mono ?_
  rintro e w2 ⟨rfl, hb2⟩
  have S2 := Lib.hid (S1.out.next hb2)
  have R2 := Lib.hid (R1.out.next S1.out hb2)
  clear hb2 S1 R1 c0 c1 c2 d0 d1 d2 hsz
  go_wp2_with fail
  refine (must_ok _ _).mono ?_
  rintro e w3 ⟨rfl, rfl⟩
  obtain ⟨c0, c1, c2, d0, d1, d2, hsz, _⟩ := S2.out
  have tq : (an == an) = true := by cases an <;> rfl
  go_wp2
  clear c0 c1 c2 d0 d1 d2 hsz
  have S0 : NumS w an an xn xd yn yd w2.drew := by have := S2.out; exact ⟨this.1, this.2.1, this.2.2.1, this.2.2.2.1, this.2.2.2.2.1, this.2.2.2.2.2.1, this.2.2.2.2.2.2.1, this.2.2.2.2.2.2.2.drew⟩
  have R0 : NumR w w2.drew := R2.out
  clear S2 R2
  -- <plus>
  refine wp_region_held_drew (S := (fun w' => w'.cell? ⟨w.heap.size, 0, none⟩ = some (.bool an) ∧ w'.cell? ⟨w.heap.size, 1, none⟩ = some (.string xn) ∧ w'.cell? ⟨w.heap.size, 2, none⟩ = some (.string xd) ∧ w'.cell? ⟨w.heap.size + 1, 0, none⟩ = some (.bool an) ∧ w'.cell? ⟨w.heap.size + 1, 1, none⟩ = some (.string yn) ∧ w'.cell? ⟨w.heap.size + 1, 2, none⟩ = some (.string yd) ∧ w.heap.size + 3 ≤ w'.heap.size ∧ Below w.heap.size w w')) (by kernel_rfl) ?_ (fun hHeld => ?_)
  · exact S0
  refine rp_take (i := 0) (v := ?_) rfl (by kernel_rfl) (by kernel_rfl) (by kernel_rfl) (by rfl) (by assumption) ?_ (by exact fun _ _ _ h => h) ?_
  rotate_left
  · (intro w hSw; (try dsimp only at hSw); go_simp; try (with_reducible rfl))
  (try simp only [Act.put, List.setIfInBounds_toArray, List.set_cons_zero, List.set_cons_succ])
  refine rp_take (i := 1) (v := ?_) rfl (by kernel_rfl) (by kernel_rfl) (by kernel_rfl) (by rfl) (by assumption) ?_ (by exact fun _ _ _ h => h) ?_
  rotate_left
  · (intro w hSw; (try dsimp only at hSw); go_simp; try (with_reducible rfl))
  (try simp only [Act.put, List.setIfInBounds_toArray, List.set_cons_zero, List.set_cons_succ])
  refine rp_take (i := 2) (v := ?_) rfl (by kernel_rfl) (by kernel_rfl) (by kernel_rfl) (by rfl) (by assumption) ?_ (by exact fun _ _ _ h => h) ?_
  rotate_left
  · (intro w hSw; (try dsimp only at hSw); go_simp; try (with_reducible rfl))
  (try simp only [Act.put, List.setIfInBounds_toArray, List.set_cons_zero, List.set_cons_succ])
  refine rp_take (i := 3) (v := ?_) rfl (by kernel_rfl) (by kernel_rfl) (by kernel_rfl) (by rfl) (by assumption) ?_ (by exact fun _ _ _ h => h) ?_
  rotate_left
  · (intro w hSw; (try dsimp only at hSw); go_simp; try (with_reducible rfl))
  (try simp only [Act.put, List.setIfInBounds_toArray, List.set_cons_zero, List.set_cons_succ])
  refine rp_take (i := 8) (v := ?_) rfl (by kernel_rfl) (by kernel_rfl) (by kernel_rfl) (by rfl) (by assumption) ?_ (by exact fun _ _ _ h => h) ?_
  rotate_left
  · (intro w hSw; (try dsimp only at hSw); go_simp; try (with_reducible rfl))
  (try simp only [Act.put, List.setIfInBounds_toArray, List.set_cons_zero, List.set_cons_succ])
  refine wpAnyH_ready (rs := [4]) (by kernel_rfl) (by simp) ?_
  refine rh_cons (i := 4) rfl (fun K hK => ?_) ?_
  · go_simp
    refine (HA.out _).mono ?_
    rintro e w1 ⟨rfl, hb1⟩
    have R1 := NumR.next (by assumption) hHeld hb1
    have S1 := NumS.next hHeld hb1
    go_wp2_with fail
    refine hK.out _ _ ?_ (fun hHeld => ?_)
    · (try dsimp only)
      exact S1
    clear hK K
    (try simp only [Act.put, List.setIfInBounds_toArray, List.set_cons_zero, List.set_cons_succ])
    refine rp_take (i := 5) (v := ?_) rfl (by kernel_rfl) (by kernel_rfl) (by kernel_rfl) (by rfl) (by assumption) ?_ (by exact fun _ _ _ h => h) ?_
    rotate_left
    · (intro w hSw; (try dsimp only at hSw); go_simp; try (with_reducible rfl))
    (try simp only [Act.put, List.setIfInBounds_toArray, List.set_cons_zero, List.set_cons_succ])
    refine rp_take (i := 6) (v := ?_) rfl (by kernel_rfl) (by kernel_rfl) (by kernel_rfl) (by rfl) (by assumption) ?_ (by exact fun _ _ _ h => h) ?_
    rotate_left
    · (intro w hSw; (try dsimp only at hSw); go_simp; try (with_reducible rfl))
    (try simp only [Act.put, List.setIfInBounds_toArray, List.set_cons_zero, List.set_cons_succ])
    refine wpAnyH_ready (rs := [7]) (by kernel_rfl) (by simp) ?_
    refine rh_cons (i := 7) rfl (fun K hK => ?_) ?_
    · go_simp
      refine (must_ok _ _).mono ?_
      rintro e w1 ⟨rfl, rfl⟩
      have S1 := hHeld
      go_wp2_with fail
      refine hK.out _ _ ?_ (fun hHeld => ?_)
      · (try dsimp only)
        exact S1
      clear hK K
      (try simp only [Act.put, List.setIfInBounds_toArray, List.set_cons_zero, List.set_cons_succ])
      refine rp_take (i := 9) (v := ?_) rfl (by kernel_rfl) (by kernel_rfl) (by kernel_rfl) (by rfl) (by assumption) ?_ (by exact fun _ _ _ h => h) ?_
      rotate_left
      · (intro w hSw; (try dsimp only at hSw); go_simp; try (with_reducible rfl))
      (try simp only [Act.put, List.setIfInBounds_toArray, List.set_cons_zero, List.set_cons_succ])
      refine wpAnyH_ready (rs := [10]) (by kernel_rfl) (by simp) ?_
      refine rh_cons (i := 10) rfl (fun K hK => ?_) ?_
      · go_simp
        obtain ⟨⟨r0, q0⟩, ⟨r1, q1⟩, ⟨r2, q2⟩, f0, f1, f2⟩ := NumR.cells (by assumption)
        go_simp
        have S1 := NumS.set (NumS.set (NumS.set hHeld 0 (.bool an)) 1 (.string sx)) 2 (.string sy)
        refine hK.out _ _ ?_ (fun hHeld => ?_)
        · (try dsimp only)
          exact S1
        clear hK K
        (try simp only [Act.put, List.setIfInBounds_toArray, List.set_cons_zero, List.set_cons_succ])
        refine wpAnyH_done (by kernel_rfl) ?_ _
        go_wp2
        exact bodyPost_ret (v := .agg #[.bool an, .string sx, .string sy]) (by simp [results, Tryz.results61, go_sem, q0, q1, q2]) rfl ⟨rfl, S1.2.2.2.2.2.2.2⟩
      exact AllReadyH.nil
    exact AllReadyH.nil
  exact AllReadyH.nil
  -- </plus>

set_option maxRecDepth 100000 in
set_option maxHeartbeats 1000000 in
theorem opsAdd_ok (an : Bool) (x y x' y' : Nat) (w : World) (hx : x < LIM) (hy : y < LIM) (hx' : x' < LIM) (hy' : y' < LIM) (h1 : x * y' + x' * y < LIM) (h2 : y * y' < LIM) :
    Calls Tryz.prog 60 #[.agg #[.bool an, .string (bs x), .string (bs y)], .agg #[.bool an, .string (bs x'), .string (bs y')]] w (Ret w (.agg #[.bool an, .string (bs (x * y' + x' * y)), .string (bs (y * y'))])) := by
  have HM := Lib.hid (fun W => plus_ok an x y x' y' W hx hy hx' hy' h1 h2)
  clear hx hy hx' hy' h1 h2
  generalize bs (x * y' + x' * y) = sx at *
  generalize bs (y * y') = sy at *
  go_enter Tryz.func60, Tryz.ntmps60
  go_wp2_with fail
  refine (HM.out _).mono ?_
  rintro e w1 ⟨rfl, hb1⟩
  obtain ⟨hc1, hf1⟩ := bcell hb1
  have hz1 : w.heap.size + 1 + 1 < w1.heap.size := by have := hb1.size; simp at this; omega
  have HB1 := Lib.hid (((((Below.refl w.heap.size w).alloc (Nat.le_refl _) _).alloc (by simp) _).alloc (by simp; omega) _).trans (hb1.mono (by simp; omega)))
  clear hb1
  go_wp2
  refine bodyPost_ret (v := .agg #[.bool an, .string sx, .string sy]) (by simp [results, Tryz.results60, go_sem, hc1]) rfl ⟨rfl, ?_⟩
  exact ((HB1.out.setCell (by simp; omega) _).setCell (by simp; omega) _).setCell (by simp; omega) _

set_option maxRecDepth 100000 in
set_option maxHeartbeats 2000000 in
theorem calcAdd_ok (a b : Rt) (w : World) (ha : a.ok) (hb : b.ok) (hs : a.neg = b.neg) (h1 : a.n * b.d + b.n * a.d < LIM) (h2 : a.d * b.d < LIM) (hT : Tab w) :
    Calls Tryz.prog 20 #[.int .u8 43, ratV a, ratV b] w (Ret w (.tuple #[ratV (lowR a.neg (a.n * b.d + b.n * a.d) (a.d * b.d)), .int .i64 0])) := by
  have HM := Lib.hid (fun W => opsAdd_ok a.neg a.n a.d b.n b.d W ha.1 ha.2.1 hb.1 hb.2.1 h1 h2)
  have HL := Lib.hid (fun W (hW : Tab W) => lowest_ok a.neg (a.n * b.d + b.n * a.d) (a.d * b.d) W h1 h2 (by have := ha.2.2.1; have := hb.2.2.1; exact Nat.mul_pos (by omega) (by omega)) hW)
  unfold ratV at HL
  have HC1 := Lib.hid (fun W (hW : Tab W) => rcheck_any a.neg (bs a.n) (bs a.d) W hW)
  have HC2 := Lib.hid (fun W (hW : Tab W) => rcheck_any b.neg (bs b.n) (bs b.d) W hW)
  rw [rchk_ok (RatS.of ha)] at HC1
  rw [rchk_ok (RatS.of hb)] at HC2
  have HLK := Lib.hid (fun W : World => run_lookup_found (P := Tryz.prog) 91 5 90 .u8 Tryz.underlying91 Tryz.underlying5 (W.alloc opsMap).drew W.heap.size _ _ 0 43 (.func (.func 60) #[] #[]) (World.alloc_heap_new W _) rfl)
  have HT := Lib.hid hT
  have hmf : ∀ (fn : Fn) (first cap : Array Value) (w : World), (Instr.makeFunc fn first cap).run Tryz.prog w = .ok (.func fn first cap) w := fun _ _ _ _ => rfl
  unfold ratV
  obtain ⟨an, x, y⟩ := a
  obtain ⟨bn, x', y'⟩ := b
  simp only at *
  subst hs
  clear h1 h2
  generalize lowR an (x * y' + x' * y) (y * y') = rr at *
  generalize bs (x * y' + x' * y) = sx at *
  generalize bs (y * y') = sy at *
  generalize bs x = xn at *
  generalize bs y = xd at *
  generalize bs x' = yn at *
  generalize bs y' = yd at *
  clear ha hb hT
  go_enter_defers Tryz.func20, Tryz.ntmps20
  go_wp2_with fail
  refine (HC1.out _ (HT.out.below ((((Below.refl w.heap.size w).alloc (Nat.le_refl _) _).alloc (by simp) _).alloc (by simp; omega) _ |>.alloc (by simp; omega) _))).mono ?_
  rintro e w1 ⟨rfl, hb1⟩
  obtain ⟨hc1, hf1⟩ := bcell hb1
  have hz1 : w.heap.size + 3 < w1.heap.size := by have := hb1.size; simp at this; omega
  have hy1 : w.heap.size + 1 < w1.heap.size := by omega
  have hy0 : w.heap.size < w1.heap.size := by omega
  have S1 : Hid (NumS w an an xn xd yn yd w1) := by
    refine ⟨by simp [go_sem, hc1], by simp [go_sem, hc1], by simp [go_sem, hc1], by simp [go_sem, hc1], by simp [go_sem, hc1], by simp [go_sem, hc1], by omega, ?_⟩
    exact (((((Below.refl w.heap.size w).alloc (Nat.le_refl _) _).alloc (by simp) _).alloc (by simp; omega) _).alloc (by simp; omega) _).trans (hb1.mono (by simp; omega))
  have R1 : Hid (CalR w w1) := by
    refine ⟨.bool false, .string ⟨#[]⟩, .string ⟨#[]⟩, .int .i64 0, (hb1.block _ (by simp)).trans ?_, (hb1.block _ (by simp)).trans ?_⟩
    · rw [Below.heap_alloc _ _ _ (by simp)]
      have e := World.alloc_heap_new ((w.alloc (.cells #[.bool an, .string xn, .string xd] 25)).alloc (.cells #[.bool an, .string yn, .string yd] 25)) (.cells #[.bool false, .string ⟨#[]⟩, .string ⟨#[]⟩] 25)
      rwa [World.size_alloc, World.size_alloc] at e
    · have e := World.alloc_heap_new (((w.alloc (.cells #[.bool an, .string xn, .string xd] 25)).alloc (.cells #[.bool an, .string yn, .string yd] 25)).alloc (.cells #[.bool false, .string ⟨#[]⟩, .string ⟨#[]⟩] 25)) (.cells #[.int .i64 0] 31)
      rwa [World.size_alloc, World.size_alloc, World.size_alloc] at e
  clear hb1
  go_wp2_with fail
  refine (HC2.out _ (HT.out.below S1.out.2.2.2.2.2.2.2)).mono ?_
  rintro e w2 ⟨rfl, hb2⟩
  obtain ⟨hc2, hf2⟩ := bcell hb2
  have S0 : NumS w an an xn xd yn yd w2.drew := by have := S1.out.next hb2; exact ⟨this.1, this.2.1, this.2.2.1, this.2.2.2.1, this.2.2.2.2.1, this.2.2.2.2.2.1, this.2.2.2.2.2.2.1, this.2.2.2.2.2.2.2.drew⟩
  have R0 : CalR w w2.drew := by have := R1.out.next hb2; exact this
  have HS0 := Lib.hid S0
  have HR0 := Lib.hid R0
  clear hb2 S0 R0 S1 R1
  go_wp2
  clear hc1 hf1 hc2 hf2 hz1 hy1 hy0
  have S0 := HS0.out
  have R0 := HR0.out
  refine wp_region_pan 6 7 (.pointer (some ⟨w.heap.size + 1 + 1, 0, none⟩)) (.pointer (some ⟨w.heap.size + 1 + 1 + 1, 0, none⟩)) [{ target := .fn (.func 40) #[.pointer (some ⟨w.heap.size + 1 + 1, 0, none⟩), .pointer (some ⟨w.heap.size + 1 + 1 + 1, 0, none⟩)], args := #[] }] (fun c W => False) ?_ ?_
  · intro c a w _ _ _ h; exact h.elim
  -- <Addok>
  refine wp_region_held_drew (S := (fun w' => w'.cell? ⟨w.heap.size, 0, none⟩ = some (.bool an) ∧ w'.cell? ⟨w.heap.size, 1, none⟩ = some (.string xn) ∧ w'.cell? ⟨w.heap.size, 2, none⟩ = some (.string xd) ∧ w'.cell? ⟨w.heap.size + 1, 0, none⟩ = some (.bool an) ∧ w'.cell? ⟨w.heap.size + 1, 1, none⟩ = some (.string yn) ∧ w'.cell? ⟨w.heap.size + 1, 2, none⟩ = some (.string yd) ∧ w.heap.size + 3 ≤ w'.heap.size ∧ Below w.heap.size w w')) (by kernel_rfl) ?_ (fun hHeld => ?_)
  · exact S0
  refine rp_take (i := 1) (v := ?_) rfl (by kernel_rfl) (by kernel_rfl) (by kernel_rfl) (by rfl) (by assumption) ?_ (by exact PanQ.put (by decide) (by decide)) ?_
  rotate_left
  · (intro w hSw; (try dsimp only at hSw); go_simp; try (with_reducible rfl))
  (try simp only [Act.put, List.setIfInBounds_toArray, List.set_cons_zero, List.set_cons_succ])
  refine rp_take (i := 3) (v := ?_) rfl (by kernel_rfl) (by kernel_rfl) (by kernel_rfl) (by rfl) (by assumption) ?_ (by exact PanQ.put (by decide) (by decide)) ?_
  rotate_left
  · (intro w hSw; (try dsimp only at hSw); go_simp; try (with_reducible rfl))
  (try simp only [Act.put, List.setIfInBounds_toArray, List.set_cons_zero, List.set_cons_succ])
  refine rp_take (i := 4) (v := ?_) rfl (by kernel_rfl) (by kernel_rfl) (by kernel_rfl) (by rfl) (by assumption) ?_ (by exact PanQ.put (by decide) (by decide)) ?_
  rotate_left
  · (intro w hSw; (try dsimp only at hSw); go_simp; try (with_reducible rfl))
  (try simp only [Act.put, List.setIfInBounds_toArray, List.set_cons_zero, List.set_cons_succ])
  refine rp_take (i := 5) (v := ?_) rfl (by kernel_rfl) (by kernel_rfl) (by kernel_rfl) (by rfl) (by assumption) ?_ (by exact PanQ.put (by decide) (by decide)) ?_
  rotate_left
  · (intro w hSw; (try dsimp only at hSw); go_simp; try (with_reducible rfl))
  (try simp only [Act.put, List.setIfInBounds_toArray, List.set_cons_zero, List.set_cons_succ])
  refine rp_take (i := 6) (v := ?_) rfl (by kernel_rfl) (by kernel_rfl) (by kernel_rfl) (by rfl) (by assumption) ?_ (by exact PanQ.put (by decide) (by decide)) ?_
  rotate_left
  · (intro w hSw; (try dsimp only at hSw); go_simp; try (with_reducible rfl))
  (try simp only [Act.put, List.setIfInBounds_toArray, List.set_cons_zero, List.set_cons_succ])
  refine rp_take (i := 7) (v := ?_) rfl (by kernel_rfl) (by kernel_rfl) (by kernel_rfl) (by rfl) (by assumption) ?_ (by exact PanQ.put (by decide) (by decide)) ?_
  rotate_left
  · (intro w hSw; (try dsimp only at hSw); go_simp; try (with_reducible rfl))
  (try simp only [Act.put, List.setIfInBounds_toArray, List.set_cons_zero, List.set_cons_succ])
  refine rp_take (i := 8) (v := ?_) rfl (by kernel_rfl) (by kernel_rfl) (by kernel_rfl) (by rfl) (by assumption) ?_ (by exact PanQ.put (by decide) (by decide)) ?_
  rotate_left
  · (intro w hSw; (try dsimp only at hSw); go_simp; try (with_reducible rfl))
  (try simp only [Act.put, List.setIfInBounds_toArray, List.set_cons_zero, List.set_cons_succ])
  refine rp_take (i := 9) (v := ?_) rfl (by kernel_rfl) (by kernel_rfl) (by kernel_rfl) (by rfl) (by assumption) ?_ (by exact PanQ.put (by decide) (by decide)) ?_
  rotate_left
  · (intro w hSw; (try dsimp only at hSw); go_simp; try (with_reducible rfl))
  (try simp only [Act.put, List.setIfInBounds_toArray, List.set_cons_zero, List.set_cons_succ])
  refine rp_take (i := 10) (v := ?_) rfl (by kernel_rfl) (by kernel_rfl) (by kernel_rfl) (by rfl) (by assumption) ?_ (by exact PanQ.put (by decide) (by decide)) ?_
  rotate_left
  · (intro w hSw; (try dsimp only at hSw); go_simp; try (with_reducible rfl))
  (try simp only [Act.put, List.setIfInBounds_toArray, List.set_cons_zero, List.set_cons_succ])
  refine rp_take (i := 11) (v := ?_) rfl (by kernel_rfl) (by kernel_rfl) (by kernel_rfl) (by rfl) (by assumption) ?_ (by exact PanQ.put (by decide) (by decide)) ?_
  rotate_left
  · (intro w hSw; (try dsimp only at hSw); go_simp; try (with_reducible rfl))
  (try simp only [Act.put, List.setIfInBounds_toArray, List.set_cons_zero, List.set_cons_succ])
  refine rp_take (i := 12) (v := ?_) rfl (by kernel_rfl) (by kernel_rfl) (by kernel_rfl) (by rfl) (by assumption) ?_ (by exact PanQ.put (by decide) (by decide)) ?_
  rotate_left
  · (intro w hSw; (try dsimp only at hSw); go_simp; try (with_reducible rfl))
  (try simp only [Act.put, List.setIfInBounds_toArray, List.set_cons_zero, List.set_cons_succ])
  refine rp_take (i := 13) (v := ?_) rfl (by kernel_rfl) (by kernel_rfl) (by kernel_rfl) (by rfl) (by assumption) ?_ (by exact PanQ.put (by decide) (by decide)) ?_
  rotate_left
  · (intro w hSw; (try dsimp only at hSw); go_simp; try (with_reducible rfl))
  (try simp only [Act.put, List.setIfInBounds_toArray, List.set_cons_zero, List.set_cons_succ])
  refine rp_take (i := 14) (v := ?_) rfl (by kernel_rfl) (by kernel_rfl) (by kernel_rfl) (by rfl) (by assumption) ?_ (by exact PanQ.put (by decide) (by decide)) ?_
  rotate_left
  · (intro w hSw; (try dsimp only at hSw); go_simp; try (with_reducible rfl))
  (try simp only [Act.put, List.setIfInBounds_toArray, List.set_cons_zero, List.set_cons_succ])
  refine rp_take (i := 15) (v := ?_) rfl (by kernel_rfl) (by kernel_rfl) (by kernel_rfl) (by rfl) (by assumption) ?_ (by exact PanQ.put (by decide) (by decide)) ?_
  rotate_left
  · (intro w hSw; (try dsimp only at hSw); go_simp; try (with_reducible rfl))
  (try simp only [Act.put, List.setIfInBounds_toArray, List.set_cons_zero, List.set_cons_succ])
  refine rp_take (i := 16) (v := ?_) rfl (by kernel_rfl) (by kernel_rfl) (by kernel_rfl) (by rfl) (by assumption) ?_ (by exact PanQ.put (by decide) (by decide)) ?_
  rotate_left
  · (intro w hSw; (try dsimp only at hSw); go_simp; try (with_reducible rfl))
  (try simp only [Act.put, List.setIfInBounds_toArray, List.set_cons_zero, List.set_cons_succ])
  refine wpAnyH_ready (rs := [0]) (by kernel_rfl) (by simp) ?_
  refine rh_cons (i := 0) rfl (fun K hK => ?_) ?_
  · go_simp
    refine (operations_any _).mono ?_
    rintro e w3 ⟨rfl, rfl⟩
    have hb3 := (Below.refl w2.drew.heap.size w2.drew).alloc (Nat.le_refl _) opsMap
    have R1 := CalR.next R0 hb3
    have S1 := NumS.next hHeld hb3
    have hlk := HLK.out w2
    go_wp2_with fail
    refine hK.out _ _ ?_ (fun hHeld => ?_)
    · (try dsimp only)
      exact S1
    clear hK K
    (try simp only [Act.put, List.setIfInBounds_toArray, List.set_cons_zero, List.set_cons_succ])
    refine wpAnyH_ready (rs := [2]) (by kernel_rfl) (by simp) ?_
    refine rh_cons (i := 2) rfl (fun K hK => ?_) ?_
    · go_simp
      have S1 := hHeld
      refine hK.out _ _ ?_ (fun hHeld => ?_)
      · (try dsimp only)
        exact S1
      clear hK K
      (try simp only [Act.put, List.setIfInBounds_toArray, List.set_cons_zero, List.set_cons_succ])
      refine wpAnyH_ready (rs := [17]) (by kernel_rfl) (by simp) ?_
      refine rh_cons (i := 17) rfl (fun K hK => ?_) ?_
      · go_simp
        refine (HM.out _).mono ?_
        rintro e w4 ⟨rfl, hb4⟩
        have R1 := CalR.next R1 hb4
        have S1 := NumS.next hHeld hb4
        go_wp2_with fail
        refine hK.out _ _ ?_ (fun hHeld => ?_)
        · (try dsimp only)
          exact S1
        clear hK K
        (try simp only [Act.put, List.setIfInBounds_toArray, List.set_cons_zero, List.set_cons_succ])
        refine wpAnyH_ready (rs := [18]) (by kernel_rfl) (by simp) ?_
        refine rh_cons (i := 18) rfl (fun K hK => ?_) ?_
        · go_simp
          refine (HL.out _ (HT.out.below hHeld.2.2.2.2.2.2.2)).mono ?_
          rintro e w5 ⟨rfl, hb5⟩
          have R1 := CalR.next R1 hb5
          have S1 := NumS.next hHeld hb5
          go_wp2_with fail
          refine hK.out _ _ ?_ (fun hHeld => ?_)
          · (try dsimp only)
            exact S1
          clear hK K
          (try simp only [Act.put, List.setIfInBounds_toArray, List.set_cons_zero, List.set_cons_succ])
          refine wpAnyH_ready (rs := [19]) (by kernel_rfl) (by simp) ?_
          refine rh_cons (i := 19) rfl (fun K hK => ?_) ?_
          · go_simp
            obtain ⟨r0, r1, r2, r3, hr1, he1⟩ := R1
            obtain ⟨q0, f0⟩ := cellAt3 hr1 0 r0 rfl
            obtain ⟨q1, f1⟩ := cellAt3 hr1 1 r1 rfl
            obtain ⟨q2, f2⟩ := cellAt3 hr1 2 r2 rfl
            obtain ⟨q3, f3⟩ := cellAt3 he1 0 r3 rfl
            clear hr1 he1
            go_simp
            have S1 := (((NumS.setb hHeld) (w.heap.size + 1 + 1) 0 (by omega) (.bool rr.neg)).setb (w.heap.size + 1 + 1) 1 (by omega) (.string (bs rr.n))).setb (w.heap.size + 1 + 1) 2 (by omega) (.string (bs rr.d))
            refine hK.out _ _ ?_ (fun hHeld => ?_)
            · (try dsimp only)
              exact S1
            clear hK K
            (try simp only [Act.put, List.setIfInBounds_toArray, List.set_cons_zero, List.set_cons_succ])
            refine wpAnyH_ready (rs := [20]) (by kernel_rfl) (by simp) ?_
            refine rh_cons (i := 20) rfl (fun K hK => ?_) ?_
            · go_simp
              have S1 := NumS.setb hHeld (w.heap.size + 1 + 1 + 1) 0 (by omega) (.int .i64 0)
              refine hK.out _ _ ?_ (fun hHeld => ?_)
              · (try dsimp only)
                exact S1
              clear hK K
              (try simp only [Act.put, List.setIfInBounds_toArray, List.set_cons_zero, List.set_cons_succ])
              refine wpAnyH_done (by kernel_rfl) ?_ _
              refine PanQ.normal ?_
              go_wp2
              refine leaves_cons (f := 40) (args := #[.pointer (some ⟨w.heap.size + 1 + 1, 0, none⟩), .pointer (some ⟨w.heap.size + 1 + 1 + 1, 0, none⟩)]) (by simp) (by simp [go_sem]) ?_
              refine (catch_idle _ _ _).mono ?_
              rintro e u' w'' ⟨rfl, rfl, rfl⟩
              refine ⟨.tuple #[.agg #[.bool rr.neg, .string (bs rr.n), .string (bs rr.d)], .int .i64 0], by simp [results, Tryz.results20, go_sem, q0, q1, q2, q3], rfl, S1.2.2.2.2.2.2.2⟩
            exact AllReadyH.nil
          exact AllReadyH.nil
        exact AllReadyH.nil
      exact AllReadyH.nil
    exact AllReadyH.nil
  exact AllReadyH.nil
  -- </Addok>

set_option maxRecDepth 100000 in
set_option maxHeartbeats 1000000 in
theorem radd_ok (a b : Rt) (w : World) (ha : a.ok) (hb : b.ok) (hs : a.neg = b.neg) (h1 : a.n * b.d + b.n * a.d < LIM) (h2 : a.d * b.d < LIM) (hT : Tab w) : Calls Tryz.prog 12 #[ratV a, ratV b] w (Ret w (.tuple #[ratV (lowR a.neg (a.n * b.d + b.n * a.d) (a.d * b.d)), .int .i64 0])) := by
  have HC := Lib.hid (fun W (hW : Tab W) => calcAdd_ok a b W ha hb hs h1 h2 hW)
  have HT := Lib.hid hT
  clear ha hb hT h1 h2 hs
  unfold ratV at *
  generalize lowR a.neg (a.n * b.d + b.n * a.d) (a.d * b.d) = o at *
  obtain ⟨an, x, y⟩ := a
  obtain ⟨bn, x', y'⟩ := b
  obtain ⟨on, ox, oy⟩ := o
  simp only at *
  generalize bs ox = sx at *
  generalize bs oy = sy at *
  generalize bs x = xn at *
  generalize bs y = xd at *
  generalize bs x' = yn at *
  generalize bs y' = yd at *
  go_enter Tryz.func12, Tryz.ntmps12
  go_wp2_with fail
  refine (HC.out _ (HT.out.below ((((Below.refl w.heap.size w).alloc (Nat.le_refl _) _).alloc (by simp) _).alloc (by simp; omega) _))).mono ?_
  rintro e w1 ⟨rfl, hb1⟩
  obtain ⟨hc1, hf1⟩ := bcell hb1
  have hz1 : w.heap.size + 1 + 1 < w1.heap.size := by have := hb1.size; simp at this; omega
  have HB1 := Lib.hid (((((Below.refl w.heap.size w).alloc (Nat.le_refl _) _).alloc (by simp) _).alloc (by simp; omega) _).trans (hb1.mono (by simp; omega)))
  clear hb1
  go_wp2
  refine bodyPost_ret (v := .tuple #[.agg #[_, _, _], _]) (by simp [results, Tryz.results12, go_sem, hc1]) rfl ⟨rfl, ?_⟩
  exact ((HB1.out.setCell (by simp; omega) _).setCell (by simp; omega) _).setCell (by simp; omega) _
end Go.Proofs.YtiohceaddojedaaGreatDoor
