/- Contracts of functions that the law reaches, and plain lemmas, texts Mg Mh Mi Mj La Lb Lc: no condition beyond those that each theorem names. -/
import Derived.Test.YtoolanjbmbcaiaaGreatDoorGc
import Derived.Laws.EntriesVeiled
import Derived.Laws.StructEq
namespace Go.Proofs.YtoolanjbmbcaiaaGreatDoor
open Go.RowKit Bf

theorem below_alloc_drew (w : World) (o : Obj) : Below w.drew.heap.size w.drew (w.alloc o).drew :=
  have h := (Below.refl w.heap.size w).alloc (Nat.le_refl _) o
  ⟨h.os, h.tape, h.output, h.size, h.block⟩
def workV (u : Int × Int) : List Value := [.int .i64 u.1, .int .i64 u.2]
def workC (us : List (Int × Int)) : List Value := us.flatMap workV
theorem workC_snoc (us : List (Int × Int)) (u : Int × Int) : workC (us ++ [u]) = workC us ++ workV u := by simp [workC]

/-- The cells that work reads. -/
def WorkS (h : Nat) (A B : Int) (W : World) : Prop := W.cell? ⟨h, 1, none⟩ = some (.int .i64 A) ∧ W.cell? ⟨h, 2, none⟩ = some (.int .i64 B)
theorem WorkS.next {h : Nat} {A B : Int} {W W' : World} (s : WorkS h A B W) (hb : Below W.heap.size W W') : WorkS h A B W' := ⟨keep_cell s.1 hb, keep_cell s.2 hb⟩
theorem WorkS.grown {h : Nat} {A B : Int} {W W' : World} {row : Option Nat} (s : WorkS h A B W) (hg : W.grownBy W' row) (h2 : some h ≠ row) : WorkS h A B W' := ⟨hg.cell s.1 h2, hg.cell s.2 h2⟩
theorem WorkS.set {h sb : Nat} {A B : Int} {W : World} (s : WorkS h A B W) (hne : ¬ h = sb) (j : Nat) (u : Value) : WorkS h A B (W.setCell ⟨sb, j, none⟩ u) := ⟨cell_set_ne s.1 (by omega), cell_set_ne s.2 (by omega)⟩

def workO (A B : Int) (o : Option Nat) : Option (Int × Int) := match o with | none => none | some k => if 1099511627776 < k then none else some (A, B * k)

def WorkPost (B0 : Nat) (w : World) (sb : Nat) (cv : Value) (day : Int) (amt bat : Rt) (next fuel lead : Int) (uv wv : Value) (ws : List (Int × Int)) (o : Option (Int × Int)) (e : Ending) (w' : World) : Prop :=
  match o with
  | some u => e = .returned (.tuple #[]) ∧ ∃ wv', Blk w' sb (stC cv day amt bat next fuel lead uv wv') 66 ∧ w'.ownsRow B0 60 2 wv' (ws.length + 1) (workC (ws ++ [u])) ∧ (wv'.ownBlock = wv.ownBlock ∨ ∃ g, wv'.ownBlock = some g ∧ w.heap.size < g) ∧ Grown2 w w' (some sb) wv.ownBlock
  | none => e = .panicked (stopPanic 2) ∧ Blk w' sb (stC cv day amt bat next fuel lead uv wv) 66 ∧ Grown2 w w' (some sb) wv.ownBlock

set_option maxRecDepth 100000 in
set_option maxHeartbeats 4000000 in
theorem work_any (B0 sb : Nat) (cv : Value) (day : Int) (amt bat : Rt) (next fuel lead : Int) (uv wv : Value) (ws : List (Int × Int)) (A B : Int) (neg : Bool) (n d : ByteArray) (w : World) (hs : Blk w sb (stC cv day amt bat next fuel lead uv wv) 66)
    (hu : w.ownsRow B0 60 2 wv ws.length (workC ws)) (hn : ws.length ≤ 65536) (hB : B0 ≤ w.heap.size) (hus : wv.ownBlock ≠ some sb) (ha : bat.ok) (hneg : bat.neg = false) (hb0 : 0 ≤ B) (hb1 : B ≤ 15) (hT : Tab w) :
    Calls Tryz.prog 42 #[.pointer (some ⟨sb, 0, none⟩), .agg #[.int .i64 6, .int .i64 A, .int .i64 B, .bool neg, .string n, .string d]] w (WorkPost B0 w sb cv day amt bat next fuel lead uv wv ws (workO A B (ceilR bat))) := by
  have HD := Lib.hid (fun W (hW : Tab W) => ceil_any bat W ha hneg hW)
  unfold ratV at HD
  have HT := Lib.hid hT
  have HU := Lib.hid hu
  have hlt := hs.lt
  have hu1 : Hid (some sb ≠ wv.ownBlock) := fun e => hus e.symm
  have hu2 : Hid (some w.heap.size ≠ wv.ownBlock) := fun e => by have := owns_lt hu e.symm; omega
  obtain ⟨i0, hi0, hz0, hz1, hz2⟩ := info_parts work_info
  obtain ⟨q5, f5⟩ := hs.at 5 _ rfl
  obtain ⟨q6, f6⟩ := hs.at 6 _ rfl
  obtain ⟨q7, f7⟩ := hs.at 7 _ rfl
  have HS := Lib.hid hs
  clear hs ha hT hu hus hneg
  generalize ceilR bat = o at *
  have ne1 : ¬ w.heap.size = sb := by omega
  have ne2 : ¬ sb = w.heap.size := by omega
  cases o
  all_goals simp only [ceilV, workO] at HD ⊢
  case none =>
    go_enter Tryz.func42, Tryz.ntmps42
    go_wp2_with fail
    refine (HD.out _ (HT.out.below ((Below.refl w.heap.size w).alloc (Nat.le_refl _) _))).mono ?_
    rintro e w1 ⟨rfl, hb1⟩
    have HB1 := Lib.hid hb1
    clear hb1
    go_wp2_with fail
    refine (mustI_no _ 2 (by omega) _).mono ?_
    rintro e w2 ⟨rfl, rfl⟩
    exact ⟨rfl, rfl, (HS.out.alloc _).below HB1.out (by simp; omega), Grown2.of ((gr_alloc _ _ _).trans (gr_below HB1.out _)) _⟩
  case some k =>
    by_cases hk : 1099511627776 < k
    · rw [if_pos hk]
      have t1 : decide (1099511627776 < (k : Int)) = true := by simp; omega
      go_enter Tryz.func42, Tryz.ntmps42
      go_wp2_with fail
      refine (HD.out _ (HT.out.below ((Below.refl w.heap.size w).alloc (Nat.le_refl _) _))).mono ?_
      rintro e w1 ⟨rfl, hb1⟩
      have HB1 := Lib.hid hb1
      clear hb1
      go_wp2_with fail
      refine (mustI_ok _ _).mono ?_
      rintro e w2 ⟨rfl, rfl⟩
      go_wp2
      exact ⟨rfl, rfl, (HS.out.alloc _).below HB1.out (by simp; omega), Grown2.of ((gr_alloc _ _ _).trans (gr_below HB1.out _)) _⟩
    · rw [if_neg hk]
      have t1 : decide (1099511627776 < (k : Int)) = false := by simp; omega
      have hm : 0 ≤ B * (k : Int) ∧ B * (k : Int) ≤ 15 * 1099511627776 := ⟨Int.mul_nonneg hb0 (by omega), Int.mul_le_mul hb1 (by omega) (by omega) (by omega)⟩
      have hm0 := hm.1
      have hm1 := hm.2
      obtain ⟨sl, hsl⟩ : ∃ sl, B * (k : Int) = sl := ⟨_, rfl⟩
      have e1 : IntKind.i64.wrap (B * (k : Int)) = sl := by rw [hsl] at hm0 hm1 ⊢; rw [IntKind.wrap_i64]; omega
      clear hm hm0 hm1
      have HF := Lib.hid (workC_snoc ws (A, B * (k : Int)))
      simp only [workV] at HF
      rw [hsl] at HF ⊢
      clear hsl
      go_enter Tryz.func42, Tryz.ntmps42
      go_wp2_with fail
      refine (HD.out _ (HT.out.below ((Below.refl w.heap.size w).alloc (Nat.le_refl _) _))).mono ?_
      rintro e w1 ⟨rfl, hb1⟩
      have HB1 := Lib.hid hb1
      clear hb1
      go_wp2_with fail
      refine (mustI_ok _ _).mono ?_
      rintro e w2 ⟨rfl, rfl⟩
      go_wp2
      have K0 : Blk w1.drew sb (stC cv day amt bat next fuel lead uv wv) 66 := ((HS.out.alloc _).below HB1.out (by simp; omega)).drew
      have L0 : Blk w1.drew w.heap.size [.int .i64 6, .int .i64 A, .int .i64 B, .bool neg, .string n, .string d] 40 := ((Blk.new w _ _).below HB1.out (by simp)).drew
      have G0 : w.grownBy w1.drew (some sb) := ((gr_alloc _ _ _).trans (gr_below HB1.out _)).trans (gr_drew _ _)
      have Z0 : w.heap.size + 1 ≤ w1.drew.heap.size := by have := HB1.out.size; rw [World.size_alloc] at this; exact this
      have S0 : WorkS w.heap.size A B w1.drew := ⟨(L0.at 1 _ rfl).1, (L0.at 2 _ rfl).1⟩
      have U0 : w1.drew.ownsRow B0 60 2 wv ws.length (workC ws) := owns_of HU.out (fun g hg => by have hl := owns_lt HU.out hg; exact (HB1.out.block g (by simp; omega)).trans (Below.heap_alloc _ _ _ hl))
      obtain ⟨q12, f12⟩ := K0.at 12 _ rfl
      have HG0 := Lib.hid G0
      have HK0 := Lib.hid K0
      have HU0 := Lib.hid U0
      have HZ0 := Lib.hid Z0
      have HB0 := Lib.hid (Below.refl w1.drew.heap.size w1.drew)
      clear G0 K0 L0 U0 Z0 q5 f5 q6 f6 q7 f7
      -- <work>
      refine wp_region_held_drew (S := (fun w' => w'.cell? ⟨w.heap.size, 1, none⟩ = some (.int .i64 A) ∧ w'.cell? ⟨w.heap.size, 2, none⟩ = some (.int .i64 B))) (by kernel_rfl) ?_ (fun hHeld => ?_)
      · exact S0
      refine rp_take (i := 0) (v := ?_) rfl (by kernel_rfl) (by kernel_rfl) (by kernel_rfl) (by rfl) (by assumption) ?_ (by exact fun _ _ _ h => h) ?_
      rotate_left
      · (intro w hSw; (try dsimp only at hSw); go_simp; try (with_reducible rfl))
      (try simp only [Act.put, List.setIfInBounds_toArray, List.set_cons_zero, List.set_cons_succ])
      refine rp_take (i := 1) (v := ?_) rfl (by kernel_rfl) (by kernel_rfl) (by kernel_rfl) (by rfl) (by assumption) ?_ (by exact fun _ _ _ h => h) ?_
      rotate_left
      · (intro w hSw; (try dsimp only at hSw); go_simp; try (with_reducible rfl))
      (try simp only [Act.put, List.setIfInBounds_toArray, List.set_cons_zero, List.set_cons_succ])
      refine rp_take (i := 2) (v := ?_) rfl (by kernel_rfl) (by kernel_rfl) (by kernel_rfl) (by rfl) (by assumption) ?_ (by exact fun _ _ _ h => h) ?_
      rotate_left
      · (intro w hSw; (try dsimp only at hSw); go_simp; try (with_reducible rfl))
      (try simp only [Act.put, List.setIfInBounds_toArray, List.set_cons_zero, List.set_cons_succ])
      refine rp_take (i := 3) (v := ?_) rfl (by kernel_rfl) (by kernel_rfl) (by kernel_rfl) (by rfl) (by assumption) ?_ (by exact fun _ _ _ h => h) ?_
      rotate_left
      · (intro w hSw; (try dsimp only at hSw); go_simp; try (with_reducible rfl))
      (try simp only [Act.put, List.setIfInBounds_toArray, List.set_cons_zero, List.set_cons_succ])
      refine rp_take (i := 5) (v := ?_) rfl (by kernel_rfl) (by kernel_rfl) (by kernel_rfl) (by rfl) (by assumption) ?_ (by exact fun _ _ _ h => h) ?_
      rotate_left
      · (intro w hSw; (try dsimp only at hSw); go_simp; try (with_reducible rfl))
      (try simp only [Act.put, List.setIfInBounds_toArray, List.set_cons_zero, List.set_cons_succ])
      refine rp_take (i := 6) (v := ?_) rfl (by kernel_rfl) (by kernel_rfl) (by kernel_rfl) (by rfl) (by assumption) ?_ (by exact fun _ _ _ h => h) ?_
      rotate_left
      · (intro w hSw; (try dsimp only at hSw); go_simp; try (with_reducible rfl))
      (try simp only [Act.put, List.setIfInBounds_toArray, List.set_cons_zero, List.set_cons_succ])
      refine rp_take (i := 7) (v := ?_) rfl (by kernel_rfl) (by kernel_rfl) (by kernel_rfl) (by rfl) (by assumption) ?_ (by exact fun _ _ _ h => h) ?_
      rotate_left
      · (intro w hSw; (try dsimp only at hSw); go_simp; try (with_reducible rfl))
      (try simp only [Act.put, List.setIfInBounds_toArray, List.set_cons_zero, List.set_cons_succ])
      refine rp_take (i := 8) (v := ?_) rfl (by kernel_rfl) (by kernel_rfl) (by kernel_rfl) (by rfl) (by assumption) ?_ (by exact fun _ _ _ h => h) ?_
      rotate_left
      · (intro w hSw; (try dsimp only at hSw); go_simp; try (with_reducible rfl))
      (try simp only [Act.put, List.setIfInBounds_toArray, List.set_cons_zero, List.set_cons_succ])
      refine rp_take (i := 9) (v := ?_) rfl (by kernel_rfl) (by kernel_rfl) (by kernel_rfl) (by rfl) (by assumption) ?_ (by exact fun _ _ _ h => h) ?_
      rotate_left
      · (intro w hSw; (try dsimp only at hSw); go_simp; try (with_reducible rfl))
      (try simp only [Act.put, List.setIfInBounds_toArray, List.set_cons_zero, List.set_cons_succ])
      refine rp_take (i := 10) (v := ?_) rfl (by kernel_rfl) (by kernel_rfl) (by kernel_rfl) (by rfl) (by assumption) ?_ (by exact fun _ _ _ h => h) ?_
      rotate_left
      · (intro w hSw; (try dsimp only at hSw); go_simp; try (with_reducible rfl))
      (try simp only [Act.put, List.setIfInBounds_toArray, List.set_cons_zero, List.set_cons_succ])
      refine rp_take (i := 11) (v := ?_) rfl (by kernel_rfl) (by kernel_rfl) (by kernel_rfl) (by rfl) (by assumption) ?_ (by exact fun _ _ _ h => h) ?_
      rotate_left
      · (intro w hSw; (try dsimp only at hSw); go_simp; try (with_reducible rfl))
      (try simp only [Act.put, List.setIfInBounds_toArray, List.set_cons_zero, List.set_cons_succ])
      refine wpAnyH_ready (rs := [4, 12]) (by kernel_rfl) (by simp) ?_
      refine rh_cons (i := 4) rfl (fun K hK => ?_) ?_
      · go_simp
        have S1 := hHeld
        refine hK.out _ _ ?_ (fun hHeld => ?_)
        · (try dsimp only)
          exact S1
        clear hK K
        (try simp only [Act.put, List.setIfInBounds_toArray, List.set_cons_zero, List.set_cons_succ])
        refine wpAnyH_ready (rs := [12]) (by kernel_rfl) (by simp) ?_
        refine rh_cons (i := 12) rfl (fun K hK => ?_) ?_
        · go_simp
          have hb3 := below_alloc_drew w1 (.cells ([.int .i64 A, .int .i64 sl] : List Value).toArray 60)
          have HB0 := Lib.hid (below_next HB0.out (Nat.le_refl _) hb3)
          have S1 := WorkS.next hHeld hb3
          obtain ⟨q12, f12⟩ := (HK0.out.below HB0.out HK0.out.lt).at 12 _ rfl
          have HN3 := Lib.hid (Blk.new w1 [.int .i64 A, .int .i64 sl] 60).drew
          clear hb3
          refine hK.out _ _ ?_ (fun hHeld => ?_)
          · (try dsimp only)
            exact S1
          clear hK K
          (try simp only [Act.put, List.setIfInBounds_toArray, List.set_cons_zero, List.set_cons_succ])
          refine wpAnyH_ready (rs := [13]) (by kernel_rfl) (by simp) ?_
          refine rh_cons (i := 13) rfl (fun K hK => ?_) ?_
          · skip
            refine step_append_any _ rfl (.tmp 21) (.tmp 29) 30 rfl B0 60 i0 _ 2 16 Tryz.underlying30 hi0 hz0 hz1 hz2 rfl (by omega) wv ws.length (workC ws) rfl (owns_of HU0.out (fun g hg => HB0.out.block g (owns_lt HU0.out hg))) (w1.heap.size + 1) (some ⟨w1.heap.size, 0, none⟩) 1 1 [.int .i64 A, .int .i64 sl] rfl ?_ ?_ ?_ ?_ ?_ ?_
            · exact reads_new HN3.out
            · intro u hu; simp at hu; rcases hu with rfl | rfl <;> rfl
            · simp only [maxLen]; omega
            · omega
            · have := HB0.out.size; have := HZ0.out; exact Nat.le_trans hB (Nat.le_trans (Nat.le_of_succ_le HZ0.out) HB0.out.size)
            intro v5 w5 hown5 hg5 hbk5
            obtain ⟨A5, c5, rfl⟩ := owns_slice hown5
            have HO5 := Lib.hid hown5
            have HG5 := Lib.hid hg5
            have HK5 := Lib.hid ((HK0.out.below HB0.out HK0.out.lt).grown hg5 hu1.out)
            have S1 := WorkS.grown hHeld hg5 hu2.out
            have HV5 := Lib.hid hbk5
            have HB5 := Lib.hid HB0.out
            obtain ⟨q12, f12⟩ := HK5.out.at 12 _ rfl
            clear hown5 hg5 hbk5
            refine hK.out _ _ ?_ (fun hHeld => ?_)
            · (try dsimp only)
              exact S1
            clear hK K
            (try simp only [Act.put, List.setIfInBounds_toArray, List.set_cons_zero, List.set_cons_succ])
            refine rp_take (i := 14) (v := ?_) rfl (by kernel_rfl) (by kernel_rfl) (by kernel_rfl) (by rfl) (by assumption) ?_ (by exact fun _ _ _ h => h) ?_
            rotate_left
            · (intro w hSw; (try dsimp only at hSw); go_simp; try (with_reducible rfl))
            (try simp only [Act.put, List.setIfInBounds_toArray, List.set_cons_zero, List.set_cons_succ])
            refine rp_take (i := 15) (v := ?_) rfl (by kernel_rfl) (by kernel_rfl) (by kernel_rfl) (by rfl) (by assumption) ?_ (by exact fun _ _ _ h => h) ?_
            rotate_left
            · (intro w hSw; (try dsimp only at hSw); go_simp; try (with_reducible rfl))
            (try simp only [Act.put, List.setIfInBounds_toArray, List.set_cons_zero, List.set_cons_succ])
            refine wpAnyH_ready (rs := [16]) (by kernel_rfl) (by simp) ?_
            refine rh_cons (i := 16) rfl (fun K hK => ?_) ?_
            · go_simp
              have S1 := WorkS.set hHeld ne1 12 (.slice A5 (ws.length + 1) c5)
              refine hK.out _ _ ?_ (fun hHeld => ?_)
              · (try dsimp only)
                exact S1
              clear hK K
              (try simp only [Act.put, List.setIfInBounds_toArray, List.set_cons_zero, List.set_cons_succ])
              refine wpAnyH_done (by kernel_rfl) ?_ _
              go_wp2
              go_end0
              have hsz5 := HB5.out.size
              have hz5 := HZ0.out
              have hne5 : ∀ g, (Value.slice A5 (ws.length + 1) c5).ownBlock = some g → g ≠ sb := fun g hg => by
                rcases HV5.out with h | h
                · rw [hg] at h; intro e; subst e; exact hu1.out h
                · rw [hg] at h; have := Option.some.inj h; omega
              refine ⟨rfl, _, HK5.out.set 12 _, ?_, ?_, ?_⟩
              · rw [HF.out]; exact owns_of HO5.out (fun g hg => Below.heap_setCell _ _ _ _ (hne5 g hg))
              · rcases HV5.out with h | h
                · exact .inl h
                · exact .inr ⟨_, h, by omega⟩
              · exact (((Grown2.of HG0.out _).trans (Grown2.of (gr_below HB5.out _) _)).trans (Grown2.of' HG5.out _)).trans (Grown2.of (gr_set _ _ _ _) _)
            exact AllReadyH.nil
          exact AllReadyH.nil
        exact AllReadyH.nil
      refine rh_cons (i := 12) rfl (fun K hK => ?_) ?_
      · go_simp
        have hb3 := below_alloc_drew w1 (.cells ([.int .i64 A, .int .i64 sl] : List Value).toArray 60)
        have HB0 := Lib.hid (below_next HB0.out (Nat.le_refl _) hb3)
        have S1 := WorkS.next hHeld hb3
        obtain ⟨q12, f12⟩ := (HK0.out.below HB0.out HK0.out.lt).at 12 _ rfl
        have HN3 := Lib.hid (Blk.new w1 [.int .i64 A, .int .i64 sl] 60).drew
        clear hb3
        refine hK.out _ _ ?_ (fun hHeld => ?_)
        · (try dsimp only)
          exact S1
        clear hK K
        (try simp only [Act.put, List.setIfInBounds_toArray, List.set_cons_zero, List.set_cons_succ])
        refine wpAnyH_ready (rs := [4]) (by kernel_rfl) (by simp) ?_
        refine rh_cons (i := 4) rfl (fun K hK => ?_) ?_
        · go_simp
          have S1 := hHeld
          refine hK.out _ _ ?_ (fun hHeld => ?_)
          · (try dsimp only)
            exact S1
          clear hK K
          (try simp only [Act.put, List.setIfInBounds_toArray, List.set_cons_zero, List.set_cons_succ])
          refine wpAnyH_ready (rs := [13]) (by kernel_rfl) (by simp) ?_
          refine rh_cons (i := 13) rfl (fun K hK => ?_) ?_
          · skip
            refine step_append_any _ rfl (.tmp 21) (.tmp 29) 30 rfl B0 60 i0 _ 2 16 Tryz.underlying30 hi0 hz0 hz1 hz2 rfl (by omega) wv ws.length (workC ws) rfl (owns_of HU0.out (fun g hg => HB0.out.block g (owns_lt HU0.out hg))) (w1.heap.size + 1) (some ⟨w1.heap.size, 0, none⟩) 1 1 [.int .i64 A, .int .i64 sl] rfl ?_ ?_ ?_ ?_ ?_ ?_
            · exact reads_new HN3.out
            · intro u hu; simp at hu; rcases hu with rfl | rfl <;> rfl
            · simp only [maxLen]; omega
            · omega
            · have := HB0.out.size; have := HZ0.out; exact Nat.le_trans hB (Nat.le_trans (Nat.le_of_succ_le HZ0.out) HB0.out.size)
            intro v5 w5 hown5 hg5 hbk5
            obtain ⟨A5, c5, rfl⟩ := owns_slice hown5
            have HO5 := Lib.hid hown5
            have HG5 := Lib.hid hg5
            have HK5 := Lib.hid ((HK0.out.below HB0.out HK0.out.lt).grown hg5 hu1.out)
            have S1 := WorkS.grown hHeld hg5 hu2.out
            have HV5 := Lib.hid hbk5
            have HB5 := Lib.hid HB0.out
            obtain ⟨q12, f12⟩ := HK5.out.at 12 _ rfl
            clear hown5 hg5 hbk5
            refine hK.out _ _ ?_ (fun hHeld => ?_)
            · (try dsimp only)
              exact S1
            clear hK K
            (try simp only [Act.put, List.setIfInBounds_toArray, List.set_cons_zero, List.set_cons_succ])
            refine rp_take (i := 14) (v := ?_) rfl (by kernel_rfl) (by kernel_rfl) (by kernel_rfl) (by rfl) (by assumption) ?_ (by exact fun _ _ _ h => h) ?_
            rotate_left
            · (intro w hSw; (try dsimp only at hSw); go_simp; try (with_reducible rfl))
            (try simp only [Act.put, List.setIfInBounds_toArray, List.set_cons_zero, List.set_cons_succ])
            refine rp_take (i := 15) (v := ?_) rfl (by kernel_rfl) (by kernel_rfl) (by kernel_rfl) (by rfl) (by assumption) ?_ (by exact fun _ _ _ h => h) ?_
            rotate_left
            · (intro w hSw; (try dsimp only at hSw); go_simp; try (with_reducible rfl))
            (try simp only [Act.put, List.setIfInBounds_toArray, List.set_cons_zero, List.set_cons_succ])
            refine wpAnyH_ready (rs := [16]) (by kernel_rfl) (by simp) ?_
            refine rh_cons (i := 16) rfl (fun K hK => ?_) ?_
            · go_simp
              have S1 := WorkS.set hHeld ne1 12 (.slice A5 (ws.length + 1) c5)
              refine hK.out _ _ ?_ (fun hHeld => ?_)
              · (try dsimp only)
                exact S1
              clear hK K
              (try simp only [Act.put, List.setIfInBounds_toArray, List.set_cons_zero, List.set_cons_succ])
              refine wpAnyH_done (by kernel_rfl) ?_ _
              go_wp2
              go_end0
              have hsz5 := HB5.out.size
              have hz5 := HZ0.out
              have hne5 : ∀ g, (Value.slice A5 (ws.length + 1) c5).ownBlock = some g → g ≠ sb := fun g hg => by
                rcases HV5.out with h | h
                · rw [hg] at h; intro e; subst e; exact hu1.out h
                · rw [hg] at h; have := Option.some.inj h; omega
              refine ⟨rfl, _, HK5.out.set 12 _, ?_, ?_, ?_⟩
              · rw [HF.out]; exact owns_of HO5.out (fun g hg => Below.heap_setCell _ _ _ _ (hne5 g hg))
              · rcases HV5.out with h | h
                · exact .inl h
                · exact .inr ⟨_, h, by omega⟩
              · exact (((Grown2.of HG0.out _).trans (Grown2.of (gr_below HB5.out _) _)).trans (Grown2.of' HG5.out _)).trans (Grown2.of (gr_set _ _ _ _) _)
            exact AllReadyH.nil
          exact AllReadyH.nil
        exact AllReadyH.nil
      exact AllReadyH.nil
      -- </work>
end Go.Proofs.YtoolanjbmbcaiaaGreatDoor
namespace Go.Proofs.YtoolanjbmbcaiaaGreatDoor
open Go.RowKit Bf

set_option maxRecDepth 100000 in
set_option maxHeartbeats 1000000 in
theorem run_catch (be : Nat) (k : Int) (a0 : Value) (w : World) (he : Blk w be [a0] 31) :
    CallsD Tryz.prog 36 #[.pointer (some ⟨be, 0, none⟩)] (.panicking (stopPanic k)) w fun e u' w' =>
      e = .returned (.tuple #[]) ∧ u' = .panicking [{ v := .iface 85 (.agg #[.int .i64 k]), recovered := true }] ∧ w' = (w.setCell ⟨be, 0, none⟩ (.int .i64 k)).alloc (.cells #[.int .i64 k] 85) := by
  have hta : ∀ W : World, (Instr.typeAssert (.iface 85 (.agg #[.int .i64 k])) 20 85 true).run Tryz.prog W = .ok (.tuple #[.agg #[.int .i64 k], .bool true]) W := fun W => by kernel_rfl
  obtain ⟨q0, f0⟩ := he.at 0 _ rfl
  have hlt := he.lt
  have ne1 : ¬ w.heap.size = be := by omega
  have ne2 : ¬ be = w.heap.size := by omega
  refine callsD_of_wpS Tryz.func36 rfl fun c₀ cs hu => ?_
  unfold stopPanic at hu
  apply wpS_seq
  apply wpS_region
  simp [wpOpsS, go_sem, recoverD, hu, Tryz.ntmps36, Exit.thenS, hta]
  refine wpS_of_wp ?_
  simp only [Array.replicate_succ, Array.replicate_zero, List.push_toArray, List.append_toArray, List.nil_append, List.cons_append, List.setIfInBounds_toArray, List.set_cons_zero, List.set_cons_succ]
  clear hu he hta
  go_wp2
  simp [bodyPostS, results, Tryz.results36]

/-- A run's state in memory. -/
structure MInv (B0 : Nat) (W : World) (sb : Nat) (bad : List Nat) (cv : Value) (day : Int) (amt : Rt) (s : Mst) (uv wv : Value) : Prop where
  st : Blk W sb (stC cv day amt s.bat (s.next : Int) (s.fuel : Int) s.lead uv wv) 66
  ru : W.ownsRow B0 58 6 uv s.uses.length (useC s.uses)
  rk : W.ownsRow B0 60 2 wv s.works.length (workC s.works)
  n1 : ∀ b, b ∈ sb :: bad → uv.ownBlock ≠ some b ∧ wv.ownBlock ≠ some b
  n3 : ∀ g, uv.ownBlock = some g → wv.ownBlock ≠ some g

theorem owns_base {w : World} {B n size : Nat} {e : TypeId} {v : Value} {xs : List Value} (h : w.ownsRow B e size v n xs) {g : Nat} (hg : v.ownBlock = some g) : B ≤ g := by
  rcases h.2 with ⟨rfl, _⟩ | ⟨g', cap, cur, rfl, h1, h2, h3⟩
  · cases hg
  · have : g' = g := Option.some.inj hg
    subst this
    exact h1

section
variable {B0 : Nat} {W W' : World} {sb : Nat} {bad : List Nat} {cv : Value} {day : Int} {amt : Rt} {s s' : Mst} {uv wv : Value}
theorem MInv.grown (h : MInv B0 W sb bad cv day amt s uv wv) (hb : Blk W' sb (stC cv day amt s'.bat (s'.next : Int) (s'.fuel : Int) s'.lead uv wv) 66) (hg : W.grownBy W' (some sb)) (hu : s'.uses = s.uses) (hw : s'.works = s.works) : MInv B0 W' sb bad cv day amt s' uv wv := by
  refine ⟨hb, ?_, ?_, h.n1, h.n3⟩
  · rw [hu]; exact owns_of h.ru (fun g hg' => hg.block g (owns_lt h.ru hg') (fun e => (h.n1 sb List.mem_cons_self).1 (by rw [hg', e])))
  · rw [hw]; exact owns_of h.rk (fun g hg' => hg.block g (owns_lt h.rk hg') (fun e => (h.n1 sb List.mem_cons_self).2 (by rw [hg', e])))
theorem MInv.use (h : MInv B0 W sb bad cv day amt s uv wv) (u : UseR) {uv' : Value} (hbad : ∀ b, b ∈ sb :: bad → b < W.heap.size) (hb : Blk W' sb (stC cv day amt s.bat (s.next : Int) (s.fuel : Int) s.lead uv' wv) 66)
    (ho : W'.ownsRow B0 58 6 uv' (s.uses.length + 1) (useC (s.uses ++ [u]))) (hn : uv'.ownBlock = uv.ownBlock ∨ ∃ g, uv'.ownBlock = some g ∧ W.heap.size < g) (hg : Grown2 W W' (some sb) uv.ownBlock) :
    MInv B0 W' sb bad cv day amt { s with uses := s.uses ++ [u] } uv' wv := by
  refine ⟨hb, by simpa using ho, ?_, fun b hb' => ⟨?_, (h.n1 b hb').2⟩, fun g hg' => ?_⟩
  · exact owns_of h.rk (fun g hg' => hg.block g (owns_lt h.rk hg') (fun e => (h.n1 sb List.mem_cons_self).2 (by rw [hg', e])) (fun e => h.n3 g e.symm hg'))
  · rcases hn with e | ⟨g, e, hl⟩
    · rw [e]; exact (h.n1 b hb').1
    · rw [e]; intro e'; have := Option.some.inj e'; have := hbad b hb'; omega
  · rcases hn with e | ⟨g', e, hl⟩
    · exact h.n3 g (e ▸ hg')
    · rw [e] at hg'; have := Option.some.inj hg'; subst this; intro e'; have := owns_lt h.rk e'; omega
theorem MInv.work (h : MInv B0 W sb bad cv day amt s uv wv) (u : Int × Int) {wv' : Value} (hbad : ∀ b, b ∈ sb :: bad → b < W.heap.size) (hb : Blk W' sb (stC cv day amt s.bat (s.next : Int) (s.fuel : Int) s.lead uv wv') 66)
    (ho : W'.ownsRow B0 60 2 wv' (s.works.length + 1) (workC (s.works ++ [u]))) (hn : wv'.ownBlock = wv.ownBlock ∨ ∃ g, wv'.ownBlock = some g ∧ W.heap.size < g) (hg : Grown2 W W' (some sb) wv.ownBlock) :
    MInv B0 W' sb bad cv day amt { s with works := s.works ++ [u] } uv wv' := by
  refine ⟨hb, ?_, by simpa using ho, fun b hb' => ⟨(h.n1 b hb').1, ?_⟩, fun g hg' => ?_⟩
  · exact owns_of h.ru (fun g hg' => hg.block g (owns_lt h.ru hg') (fun e => (h.n1 sb List.mem_cons_self).1 (by rw [hg', e])) (fun e => h.n3 g hg' e.symm))
  · rcases hn with e | ⟨g, e, hl⟩
    · rw [e]; exact (h.n1 b hb').2
    · rw [e]; intro e'; have := Option.some.inj e'; have := hbad b hb'; omega
  · rcases hn with e | ⟨g', e, hl⟩
    · rw [e]; exact h.n3 g hg'
    · rw [e]; intro e'; have := Option.some.inj e'; have := owns_lt h.ru hg'; omega
theorem Grown2.below {w : World} {B0 : Nat} {r1 r2 : Option Nat} (h : Below B0 w W) (hs : B0 ≤ w.heap.size) (hg : Grown2 W W' r1 r2) (h1 : ∀ g, r1 = some g → B0 ≤ g) (h2 : ∀ g, r2 = some g → B0 ≤ g) : Below B0 w W' :=
  ⟨hg.os.trans h.os, hg.tape.trans h.tape, hg.output.trans h.output, Nat.le_trans h.size hg.size, fun k hk => (hg.block k (by have := h.size; omega) (fun e => by have := h1 k e.symm; omega) (fun e => by have := h2 k e.symm; omega)).trans (h.block k hk)⟩
theorem Grown2.blk {b : Nat} {l : List Value} {t : TypeId} {r1 r2 : Option Nat} (h : Blk W b l t) (hg : Grown2 W W' r1 r2) (h1 : some b ≠ r1) (h2 : some b ≠ r2) : Blk W' b l t := (hg.block b h.lt h1 h2).trans h
end

def RunPost (B0 : Nat) (w : World) (sb : Nat) (cv : Value) (day : Int) (amt : Rt) (R : Int × Mst) (e : Ending) (w' : World) : Prop :=
  e = .returned (.int .i64 R.1) ∧ Below B0 w w' ∧ (R.1 = 0 → ∃ uv wv, MInv B0 w' sb [] cv day amt R.2 uv wv)

/-- The functions of run's table. -/
def doL : List Value := [.nilFunc, .func (.func 37) #[] #[], .func (.func 38) #[] #[], .func (.func 39) #[] #[], .func (.func 40) #[] #[], .func (.func 41) #[] #[], .func (.func 42) #[] #[], .func (.func 43) #[] #[], .func (.func 44) #[] #[]]

/-- What holds at the head of each round of a run. -/
structure RInv (B0 : Nat) (w W : World) (sb eb db b off : Nat) (l : List In) (cv : Value) (ch : List Int) (day : Int) (amt : Rt) (R : Int × Mst) (s : Mst) (g : Nat) (uv wv : Value) : Prop where
  run : runI l ch day amt g s = R
  gas : l.length ≤ g + s.next
  lt : s.next < l.length
  bat : s.bat.ok
  pos : s.bat.neg = false
  lu : s.uses.length ≤ s.next
  lw : s.works.length ≤ s.next
  fl : s.fuel ≤ 9223372036854775807
  inv : MInv B0 W sb [eb, db] cv day amt s uv wv
  eb : Blk W eb [.int .i64 0] 31
  db : Blk W db doL 89
  bel : Below B0 w W

def nextOf (W : World) (sb : Nat) : Nat := match W.cell? ⟨sb, 8, none⟩ with | some (.int _ n) => n.toNat | _ => 0

end Go.Proofs.YtoolanjbmbcaiaaGreatDoor
namespace Go.Proofs.YtoolanjbmbcaiaaGreatDoor
open Go.RowKit Bf

set_option maxRecDepth 100000 in
set_option maxHeartbeats 1000000 in
/-- Where a run stops, run returns the error. -/
theorem run_leaves (B0 eb sb : Nat) (w W : World) (k : Int) (cv : Value) (day : Int) (amt : Rt) (R : Int × Mst) (tmps : Array Value) (h4 : tmps.getD 4 undef = .pointer (some ⟨eb, 0, none⟩)) (he : Blk W eb [.int .i64 0] 31) (hne : eb ≠ sb) (hB : B0 ≤ eb) (_hs : B0 ≤ w.heap.size) (hb : Below B0 w W) (hk : R.1 = k)
    (hi : k = 0 → ∃ uv wv, MInv B0 W sb [eb] cv day amt R.2 uv wv) :
    Leaves Tryz.prog Tryz.f18 tmps (RunPost B0 w sb cv day amt R) [{ target := .fn (.func 36) #[.pointer (some ⟨eb, 0, none⟩)], args := #[] }] (.panicking (stopPanic k)) W := by
  rw [Array.getD_eq_getD_getElem?] at h4
  obtain ⟨q0, f0⟩ := he.at 0 _ rfl
  have hlt := he.lt
  refine leaves_cons (f := 36) (args := #[.pointer (some ⟨eb, 0, none⟩)]) (by simp) (by simp [go_sem]) ?_
  refine (run_catch eb k _ W he).mono ?_
  rintro e u' w'' ⟨rfl, rfl, rfl⟩
  have hE : Blk ((W.setCell ⟨eb, 0, none⟩ (.int .i64 k)).alloc (.cells #[.int .i64 k] 85)) eb [.int .i64 k] 31 := (he.set 0 _).alloc _
  obtain ⟨p0, g0⟩ := hE.at 0 _ rfl
  refine ⟨.int .i64 k, by simp [results, Tryz.results18, go_sem, h4, p0], by rw [hk], ?_, ?_⟩
  · exact (hb.setCell (p := ⟨eb, 0, none⟩) hB _).alloc (by have := hb.size; simp [World.setCell]; omega) _
  · intro h0
    obtain ⟨uv, wv, h⟩ := hi (by rw [← hk]; exact h0)
    refine ⟨uv, wv, ((h.st.other (fun e => hne e.symm) _).alloc _), ?_, ?_, fun b hb' => h.n1 b (by simp at hb'; simp [hb']), h.n3⟩
    · exact owns_of h.ru (fun g hg => by
        have hl := owns_lt h.ru hg
        have hg2 : g ≠ eb := fun e => (h.n1 eb (by simp)).1 (by rw [hg, e])
        exact (Below.heap_alloc _ _ _ (by simpa [World.setCell] using hl)).trans (Below.heap_setCell _ _ _ _ hg2))
    · exact owns_of h.rk (fun g hg => by
        have hl := owns_lt h.rk hg
        have hg2 : g ≠ eb := fun e => (h.n1 eb (by simp)).2 (by rw [hg, e])
        exact (Below.heap_alloc _ _ _ (by simpa [World.setCell] using hl)).trans (Below.heap_setCell _ _ _ _ hg2))

theorem vld_op {x : In} {after : Int} (h : vldB x after = true) : 1 ≤ x.op ∧ x.op ≤ 8 := by
  unfold vldB at h
  by_cases h1 : x.op = 1
  · omega
  by_cases h2 : x.op = 2
  · omega
  by_cases h3 : x.op = 3
  · omega
  by_cases h4 : x.op = 4
  · omega
  by_cases h5 : x.op = 5
  · omega
  by_cases h6 : x.op = 6
  · omega
  by_cases h7 : x.op = 7
  · omega
  by_cases h8 : x.op = 8
  · omega
  rw [if_neg h1, if_neg h2, if_neg h3, if_neg h4, if_neg h5, if_neg h6, if_neg h7, if_neg h8] at h
  cases h
theorem MInv.fewer {B0 : Nat} {W : World} {sb eb db : Nat} {cv : Value} {day : Int} {amt : Rt} {s : Mst} {uv wv : Value} (h : MInv B0 W sb [eb, db] cv day amt s uv wv) : MInv B0 W sb [eb] cv day amt s uv wv :=
  ⟨h.st, h.ru, h.rk, fun b hb => h.n1 b (by simp at hb; rcases hb with e | e <;> simp [e]), h.n3⟩

/-- What a step of a run leaves. -/
def StepPost (B0 : Nat) (w : World) (sb eb db ib : Nat) (x : In) (f : Nat) (cv : Value) (day : Int) (amt : Rt) (o : Out) (e : Ending) (w' : World) : Prop :=
  match o with
  | .go s => e = .returned (.tuple #[]) ∧ ∃ uv wv, MInv B0 w' sb [eb, db] cv day amt s uv wv ∧ Below B0 w w' ∧ Blk w' eb [.int .i64 0] 31 ∧ Blk w' db doL 89 ∧
      (w'.cell? ⟨ib, 0, none⟩ = some (.int .i64 x.op) ∧ w'.cell? ⟨ib, 1, none⟩ = some (.int .i64 x.A) ∧ w'.cell? ⟨ib, 2, none⟩ = some (.int .i64 x.B) ∧ w'.cell? ⟨ib, 3, none⟩ = some (.bool x.neg) ∧ w'.cell? ⟨ib, 4, none⟩ = some (.string x.n) ∧ w'.cell? ⟨ib, 5, none⟩ = some (.string x.d) ∧ w'.cell? ⟨db, x.op.toNat, none⟩ = some (.func (.func f) #[] #[]))
  | .stop k s => e = .panicked (stopPanic k) ∧ Below B0 w w' ∧ Blk w' eb [.int .i64 0] 31 ∧ (k = 0 → ∃ uv wv, MInv B0 w' sb [eb] cv day amt s uv wv)

theorem vld_rat {neg : Bool} {n d : ByteArray} (h : alz neg n d = true) : ∃ r : Rt, r.ok ∧ r.neg = false ∧ neg = false ∧ bs r.n = n ∧ bs r.d = d ∧ r = ⟨neg, bv n, bv d⟩ := by
  obtain ⟨h1, rfl⟩ := alz_iff.1 h
  exact ⟨⟨false, bv n, bv d⟩, ⟨short_lt h1.1, short_lt h1.2.1, by have := h1.2.2.1; show 0 < bv d; omega, h1.2.2.2.1, h1.2.2.2.2⟩, rfl, rfl, bs_bv h1.1.1, bs_bv h1.2.1.1, rfl⟩

section
variable {B0 : Nat} {w W W' : World} {sb eb db ib : Nat} {cv : Value} {day : Int} {amt : Rt} {s s' : Mst} {uv wv : Value} {x : In} {f : Nat}
/-- What a step must keep. -/
structure Kept (B0 : Nat) (w W : World) (sb eb db ib : Nat) (x : In) (uv wv : Value) : Prop where
  bel : Below B0 w W
  hs : B0 ≤ w.heap.size
  hB : B0 ≤ sb
  ye : Blk W eb [.int .i64 0] 31
  yd : Blk W db doL 89
  yi : Blk W ib [.int .i64 x.op, .int .i64 x.A, .int .i64 x.B, .bool x.neg, .string x.n, .string x.d] 40
  e1 : eb ≠ sb
  d1 : db ≠ sb
  i1 : ib ≠ sb
  iu : uv.ownBlock ≠ some ib
  iw : wv.ownBlock ≠ some ib
theorem Kept.cells (h : Kept B0 w W sb eb db ib x uv wv) (hf : doL[x.op.toNat]? = some (.func (.func f) #[] #[])) :
    (W.cell? ⟨ib, 0, none⟩ = some (.int .i64 x.op) ∧ W.cell? ⟨ib, 1, none⟩ = some (.int .i64 x.A) ∧ W.cell? ⟨ib, 2, none⟩ = some (.int .i64 x.B) ∧ W.cell? ⟨ib, 3, none⟩ = some (.bool x.neg) ∧ W.cell? ⟨ib, 4, none⟩ = some (.string x.n) ∧ W.cell? ⟨ib, 5, none⟩ = some (.string x.d) ∧ W.cell? ⟨db, x.op.toNat, none⟩ = some (.func (.func f) #[] #[])) :=
  ⟨(h.yi.at 0 _ rfl).1, (h.yi.at 1 _ rfl).1, (h.yi.at 2 _ rfl).1, (h.yi.at 3 _ rfl).1, (h.yi.at 4 _ rfl).1, (h.yi.at 5 _ rfl).1, (h.yd.at _ _ hf).1⟩
theorem Kept.step {r2 : Option Nat} (h : Kept B0 w W sb eb db ib x uv wv) (hg : Grown2 W W' (some sb) r2) (h1 : ∀ g, r2 = some g → B0 ≤ g ∧ g ≠ eb ∧ g ≠ db ∧ g ≠ ib) : Kept B0 w W' sb eb db ib x uv wv :=
  ⟨Grown2.below h.bel h.hs hg (fun g e => by cases e; exact h.hB) (fun g e => (h1 g e).1), h.hs, h.hB,
   Grown2.blk h.ye hg (fun e => h.e1 (Option.some.inj e)) (fun e => (h1 eb e.symm).2.1 rfl), Grown2.blk h.yd hg (fun e => h.d1 (Option.some.inj e)) (fun e => (h1 db e.symm).2.2.1 rfl),
   Grown2.blk h.yi hg (fun e => h.i1 (Option.some.inj e)) (fun e => (h1 ib e.symm).2.2.2 rfl), h.e1, h.d1, h.i1, h.iu, h.iw⟩
theorem step_go (hk : Kept B0 w W sb eb db ib x uv wv) (hf : doL[x.op.toNat]? = some (.func (.func f) #[] #[])) {uv' wv' : Value} (hm : MInv B0 W sb [eb, db] cv day amt s uv' wv') :
    StepPost B0 w sb eb db ib x f cv day amt (.go s) (.returned (.tuple #[])) W := ⟨rfl, uv', wv', hm, hk.bel, hk.ye, hk.yd, hk.cells hf⟩
theorem step_stop (hk : Kept B0 w W sb eb db ib x uv wv) {k : Int} (hm : k = 0 → ∃ uv wv, MInv B0 W sb [eb] cv day amt s uv wv) : StepPost B0 w sb eb db ib x f cv day amt (.stop k s) (.panicked (stopPanic k)) W := ⟨rfl, hk.bel, hk.ye, hm⟩
end

theorem step_call (B0 sb eb db ib : Nat) (cv : Value) (ch : List Int) (day : Int) (amt : Rt) (s : Mst) (uv wv : Value) (x : In) (after : Int) (w W : World) (hv : vldB x after = true) (hi : MInv B0 W sb [eb, db] cv day amt s uv wv) (hk : Kept B0 w W sb eb db ib x uv wv)
    (hn : s.next ≤ 8192) (hn1 : after ≤ 8192) (hlu : s.uses.length ≤ 8192) (hlw : s.works.length ≤ 8192) (hba : s.bat.ok) (hbn : s.bat.neg = false) (ha : amt.ok) (hT : Tab W) (hch : ChAt W cv ch) :
    ∃ f, doL[x.op.toNat]? = some (.func (.func f) #[] #[]) ∧ (∀ args W', (callFunc f args).run Tryz.prog W' = .ok (.enter f args) W') ∧
      Calls Tryz.prog f #[.pointer (some ⟨sb, 0, none⟩), inV x] W (StepPost B0 w sb eb db ib x f cv day amt (stepI ch day amt x s)) := by
  have hop := vld_op hv
  have hbel := hk.bel
  have hu0 : ∀ g, uv.ownBlock = some g → B0 ≤ g ∧ g ≠ eb ∧ g ≠ db ∧ g ≠ ib := fun g e => ⟨owns_base hi.ru e, fun e' => (hi.n1 eb (by simp)).1 (by rw [e, e']), fun e' => (hi.n1 db (by simp)).1 (by rw [e, e']), fun e' => hk.iu (by rw [e, e'])⟩
  have hw0 : ∀ g, wv.ownBlock = some g → B0 ≤ g ∧ g ≠ eb ∧ g ≠ db ∧ g ≠ ib := fun g e => ⟨owns_base hi.rk e, fun e' => (hi.n1 eb (by simp)).2 (by rw [e, e']), fun e' => (hi.n1 db (by simp)).2 (by rw [e, e']), fun e' => hk.iw (by rw [e, e'])⟩
  have hbad : ∀ b, b ∈ sb :: [eb, db] → b < W.heap.size := fun b hb => by
    simp at hb
    rcases hb with rfl | rfl | rfl
    · exact hi.st.lt
    · exact hk.ye.lt
    · exact hk.yd.lt
  have hBW : B0 ≤ W.heap.size := Nat.le_trans hk.hs hk.bel.size
  obtain ⟨op, A, B, neg, n, d⟩ := x
  simp only at hop
  have h8 : op = 1 ∨ op = 2 ∨ op = 3 ∨ op = 4 ∨ op = 5 ∨ op = 6 ∨ op = 7 ∨ op = 8 := by omega
  unfold inV
  rcases h8 with rfl | rfl | rfl | rfl | rfl | rfl | rfl | rfl
  · refine ⟨37, rfl, enters_of Tryz.func37 (by kernel_rfl) rfl, ?_⟩
    have hA : -2 ≤ A := by simp [vldB, btw] at hv; omega
    refine (test_any sb cv ch day amt s.bat s.next s.fuel s.lead uv wv A B neg n d W hi.st (by omega) hA hch).mono ?_
    rintro e w' ⟨rfl, hb, hg⟩
    refine step_go (hk.step (Grown2.of hg none) (fun g e => by cases e)) rfl (uv' := uv) (wv' := wv) (hi.grown hb hg rfl rfl)
  · refine ⟨38, rfl, enters_of Tryz.func38 (by kernel_rfl) rfl, ?_⟩
    have hA : 0 ≤ A ∧ A < after := by simp [vldB] at hv; exact hv
    obtain ⟨k, rfl⟩ := Int.eq_ofNat_of_zero_le hA.1
    refine (jump_any sb cv day amt s.bat s.next k s.fuel s.lead uv wv B neg n d W hi.st (by omega) (by omega)).mono ?_
    rintro e w' ⟨rfl, hb, hg⟩
    refine step_go (hk.step (Grown2.of hg none) (fun g e => by cases e)) rfl (uv' := uv) (wv' := wv) (hi.grown (by simpa using hb) hg rfl rfl)
  · refine ⟨39, rfl, enters_of Tryz.func39 (by kernel_rfl) rfl, ?_⟩
    have hA : alz neg n d = true ∧ n.toList.isEmpty = false := by simp [vldB] at hv; exact ⟨hv.1.1.1, by simpa using hv.1.1.2⟩
    obtain ⟨r, hr, hrn, rfl, rfl, rfl, hre⟩ := vld_rat hA.1
    have h0 : r.n ≠ 0 := fun e => by have := hA.2; rw [bs_isEmpty, e] at this; simp at this
    have := load_any sb cv day amt s.bat r s.next s.fuel s.lead uv wv A B W hi.st ha hr h0 hT
    rw [hrn] at this
    refine this.mono ?_
    rintro e w' ⟨hp, hg⟩
    have hk' := hk.step (Grown2.of hg none) (fun g e => by cases e)
    have est : stepI ch day amt ⟨3, A, B, false, bs r.n, bs r.d⟩ s = match divR amt r with | none => .stop 2 s | some q => .go { s with bat := q, lead := B } := by
      show (match divR amt ⟨false, bv (bs r.n), bv (bs r.d)⟩ with | none => Out.stop 2 s | some q => .go { s with bat := q, lead := B }) = _
      rw [← hre]
    rw [est]
    cases hq : divR amt r with
    | none => rw [hq] at hp; obtain ⟨rfl, hb⟩ := hp; exact step_stop hk' (fun e => by cases e)
    | some q => rw [hq] at hp; obtain ⟨rfl, hb⟩ := hp; exact step_go hk' rfl (uv' := uv) (wv' := wv) (hi.grown (s' := { s with bat := q, lead := B }) hb hg rfl rfl)
  · refine ⟨40, rfl, enters_of Tryz.func40 (by kernel_rfl) rfl, ?_⟩
    have hA : alz neg n d = true := by simp [vldB] at hv; exact hv.1.1
    obtain ⟨r, hr, hrn, rfl, rfl, rfl, hre⟩ := vld_rat hA
    have := use_any B0 sb cv day amt s.bat r s.next s.fuel s.lead uv wv s.uses A B W hi.st hi.ru (by omega) hBW (hi.n1 sb (by simp)).1 hba hr hT
    rw [hrn] at this
    refine this.mono ?_
    intro e w' hp
    have est : stepI ch day amt ⟨4, A, B, false, bs r.n, bs r.d⟩ s = match mulR r s.bat with | none => .stop 2 s | some q => .go { s with uses := s.uses ++ [⟨A, q, false, B == 1⟩] } := by
      show (match mulR ⟨false, bv (bs r.n), bv (bs r.d)⟩ s.bat with | none => Out.stop 2 s | some q => .go { s with uses := s.uses ++ [(⟨A, q, false, B == 1⟩ : UseR)] }) = _
      rw [← hre]
    rw [est]
    cases hq : mulR r s.bat with
    | none => rw [hq] at hp; obtain ⟨rfl, hb, hg⟩ := hp; exact step_stop (hk.step hg hu0) (fun e => by cases e)
    | some q =>
      rw [hq] at hp
      obtain ⟨rfl, uv', hb, ho, hn', hg⟩ := hp
      exact step_go (hk.step hg hu0) rfl (hi.use _ hbad hb ho hn' hg)
  · refine ⟨41, rfl, enters_of Tryz.func41 (by kernel_rfl) rfl, ?_⟩
    have hA : alz neg n d = true := by simp [vldB] at hv; exact hv.1.1
    obtain ⟨r, hr, hrn, rfl, rfl, rfl, hre⟩ := vld_rat hA
    have := give_any B0 sb cv day amt s.bat r s.next s.fuel s.lead uv wv s.uses A B W hi.st hi.ru (by omega) hBW (hi.n1 sb (by simp)).1 hba hr hT
    rw [hrn] at this
    refine this.mono ?_
    intro e w' hp
    have est : stepI ch day amt ⟨5, A, B, false, bs r.n, bs r.d⟩ s = match mulR r s.bat with | none => .stop 2 s | some q => .go { s with uses := s.uses ++ [⟨A, q, true, false⟩] } := by
      show (match mulR ⟨false, bv (bs r.n), bv (bs r.d)⟩ s.bat with | none => Out.stop 2 s | some q => .go { s with uses := s.uses ++ [(⟨A, q, true, false⟩ : UseR)] }) = _
      rw [← hre]
    rw [est]
    cases hq : mulR r s.bat with
    | none => rw [hq] at hp; obtain ⟨rfl, hb, hg⟩ := hp; exact step_stop (hk.step hg hu0) (fun e => by cases e)
    | some q =>
      rw [hq] at hp
      obtain ⟨rfl, uv', hb, ho, hn', hg⟩ := hp
      exact step_go (hk.step hg hu0) rfl (hi.use _ hbad hb ho hn' hg)
  · refine ⟨42, rfl, enters_of Tryz.func42 (by kernel_rfl) rfl, ?_⟩
    have hA : 0 ≤ B ∧ B ≤ 15 := by simp [vldB, btw] at hv; omega
    have := work_any B0 sb cv day amt s.bat s.next s.fuel s.lead uv wv s.works A B neg n d W hi.st hi.rk (by omega) hBW (hi.n1 sb (by simp)).2 hba hbn hA.1 hA.2 hT
    refine this.mono ?_
    intro e w' hp
    have est : stepI ch day amt ⟨6, A, B, neg, n, d⟩ s = match workO A B (ceilR s.bat) with | none => .stop 2 s | some u => .go { s with works := s.works ++ [u] } := by
      show (match ceilR s.bat with | none => Out.stop 2 s | some k => if 1099511627776 < k then .stop 2 s else .go { s with works := s.works ++ [(A, B * k)] }) = _
      unfold workO
      cases ceilR s.bat with
      | none => rfl
      | some k => by_cases h : 1099511627776 < k <;> simp [h]
    rw [est]
    cases hq : workO A B (ceilR s.bat) with
    | none => rw [hq] at hp; obtain ⟨rfl, hb, hg⟩ := hp; exact step_stop (hk.step hg hw0) (fun e => by cases e)
    | some q =>
      rw [hq] at hp
      obtain ⟨rfl, wv', hb, ho, hn', hg⟩ := hp
      exact step_go (hk.step hg hw0) rfl (hi.work _ hbad hb ho hn' hg)
  · refine ⟨43, rfl, enters_of Tryz.func43 (by kernel_rfl) rfl, ?_⟩
    refine (done_any sb ⟨7, A, B, neg, n, d⟩ W).mono ?_
    rintro e w' ⟨rfl, hb⟩
    have hg := gr_below hb (some sb)
    exact step_stop (hk.step (Grown2.of hg none) (fun g e => by cases e)) (fun _ => ⟨uv, wv, (hi.grown (hi.st.below hb hi.st.lt) hg rfl rfl).fewer⟩)
  · refine ⟨44, rfl, enters_of Tryz.func44 (by kernel_rfl) rfl, ?_⟩
    refine (fail_any sb ⟨8, A, B, neg, n, d⟩ W).mono ?_
    rintro e w' ⟨rfl, hb⟩
    have hg := gr_below hb (some sb)
    exact step_stop (hk.step (Grown2.of hg none) (fun g e => by cases e)) (fun e => by cases e)

theorem nextOf_eq {W : World} {sb : Nat} {cv : Value} {day : Int} {amt bat : Rt} {k : Nat} {fuel lead : Int} {uv wv : Value} (h : Blk W sb (stC cv day amt bat (k : Int) fuel lead uv wv) 66) : nextOf W sb = k := by
  unfold nextOf
  rw [(h.at 8 _ rfl).1]
  simp
theorem divR_ok {a r q : Rt} (h : divR a r = some q) (ha : a.ok) (hr0 : r.n ≠ 0) : q.ok := mulR_ok h ha.2.2.1 (by show 0 < r.n; omega)

/-- A step leads to a later instruction. -/
theorem step_next {l : List In} {ch : List Int} {day : Int} {amt : Rt} {x : In} {s s' : Mst} {i : Nat} (hl : progOk l) (hx : l[i]? = some x) (hn : s.next = i + 1) (hb : s.bat.ok) (hbn : s.bat.neg = false) (ha : amt.ok) (han : amt.neg = false) (h : stepI ch day amt x s = .go s') :
    s'.next < l.length ∧ i < s'.next ∧ s'.bat.ok ∧ s'.bat.neg = false ∧ s'.fuel = s.fuel ∧ (s'.uses.length ≤ s.uses.length + 1) ∧ (s'.works.length ≤ s.works.length + 1) := by
  have hi : i < l.length := (List.getElem?_eq_some_iff.1 hx).1
  have hv := hl.2.2.1 i x hx
  have hop := vld_op hv
  have hlast : x.op ≠ 7 → x.op ≠ 8 → i + 1 < l.length := fun h7 h8 => by
    rcases Nat.lt_or_ge (i + 1) l.length with h | h
    · exact h
    · have e : l.length - 1 = i := by omega
      rcases hl.2.2.2 x (by rw [e]; exact hx) with h' | h'
      · exact absurd h' h7
      · exact absurd h' h8
  obtain ⟨op, A, B, neg, n, d⟩ := x
  simp only at hop hlast
  have h8 : op = 1 ∨ op = 2 ∨ op = 3 ∨ op = 4 ∨ op = 5 ∨ op = 6 ∨ op = 7 ∨ op = 8 := by omega
  rcases h8 with rfl | rfl | rfl | rfl | rfl | rfl | rfl | rfl
  · have h2 : (2 : Int) ≤ (l.length : Int) - 1 - i := by simp [vldB] at hv; omega
    simp only [stepI] at h
    cases h
    refine ⟨?_, ?_, hb, hbn, rfl, by simp, by simp⟩ <;> simp only <;> split <;> omega
  · have h2 : 0 ≤ A ∧ A < (l.length : Int) - 1 - i := by simp [vldB] at hv; exact hv
    simp only [stepI] at h
    cases h
    refine ⟨?_, ?_, hb, hbn, rfl, by simp, by simp⟩ <;> simp only <;> omega
  · have hA : alz neg n d = true ∧ n.toList.isEmpty = false := by simp [vldB] at hv; exact ⟨hv.1.1.1, by simpa using hv.1.1.2⟩
    obtain ⟨r, hr, hrn, rfl, rfl, rfl, hre⟩ := vld_rat hA.1
    have h0 : r.n ≠ 0 := fun e => by have := hA.2; rw [bs_isEmpty, e] at this; simp at this
    have e : stepI ch day amt ⟨3, A, B, false, bs r.n, bs r.d⟩ s = match divR amt ⟨false, bv (bs r.n), bv (bs r.d)⟩ with | none => Out.stop 2 s | some q => .go { s with bat := q, lead := B } := rfl
    rw [e, ← hre] at h
    cases hq : divR amt r with
    | none => rw [hq] at h; cases h
    | some q =>
      rw [hq] at h
      cases h
      have := hlast (by decide) (by decide)
      exact ⟨by show s.next < _; omega, by show i < s.next; omega, divR_ok hq ha h0, mulR_sign hq han hrn, rfl, by simp, by simp⟩
  · have hA : alz neg n d = true := by simp [vldB] at hv; exact hv.1.1
    obtain ⟨r, hr, hrn, rfl, rfl, rfl, hre⟩ := vld_rat hA
    have e : stepI ch day amt ⟨4, A, B, false, bs r.n, bs r.d⟩ s = match mulR ⟨false, bv (bs r.n), bv (bs r.d)⟩ s.bat with | none => Out.stop 2 s | some q => .go { s with uses := s.uses ++ [(⟨A, q, false, B == 1⟩ : UseR)] } := rfl
    rw [e, ← hre] at h
    cases hq : mulR r s.bat with
    | none => rw [hq] at h; cases h
    | some q =>
      rw [hq] at h
      cases h
      have := hlast (by decide) (by decide)
      exact ⟨by show s.next < _; omega, by show i < s.next; omega, hb, hbn, rfl, by simp, by simp⟩
  · have hA : alz neg n d = true := by simp [vldB] at hv; exact hv.1.1
    obtain ⟨r, hr, hrn, rfl, rfl, rfl, hre⟩ := vld_rat hA
    have e : stepI ch day amt ⟨5, A, B, false, bs r.n, bs r.d⟩ s = match mulR ⟨false, bv (bs r.n), bv (bs r.d)⟩ s.bat with | none => Out.stop 2 s | some q => .go { s with uses := s.uses ++ [(⟨A, q, true, false⟩ : UseR)] } := rfl
    rw [e, ← hre] at h
    cases hq : mulR r s.bat with
    | none => rw [hq] at h; cases h
    | some q =>
      rw [hq] at h
      cases h
      have := hlast (by decide) (by decide)
      exact ⟨by show s.next < _; omega, by show i < s.next; omega, hb, hbn, rfl, by simp, by simp⟩
  · have e : stepI ch day amt ⟨6, A, B, neg, n, d⟩ s = match ceilR s.bat with | none => Out.stop 2 s | some k => if 1099511627776 < k then .stop 2 s else .go { s with works := s.works ++ [(A, B * k)] } := rfl
    rw [e] at h
    cases hq : ceilR s.bat with
    | none => rw [hq] at h; cases h
    | some k =>
      rw [hq] at h
      simp only at h
      split at h
      · cases h
      · cases h
        have := hlast (by decide) (by decide)
        exact ⟨by show s.next < _; omega, by show i < s.next; omega, hb, hbn, rfl, by simp, by simp⟩
  · exact absurd h (by simp [stepI])
  · exact absurd h (by simp [stepI])

set_option maxRecDepth 100000 in
set_option maxHeartbeats 4000000 in
theorem run_any (B0 sb b off c fuel : Nat) (l : List In) (cv : Value) (ch : List Int) (day : Int) (amt : Rt) (w : World) (hl : progOk l) (hc : CodeAt w b off l) (hbB : b < B0) (hch : ∀ W, Below B0 w W → ChAt W cv ch) (hB0 : B0 ≤ sb) (hB1 : B0 ≤ w.heap.size) (hf : fuel < 9223372036854775808) (ha : amt.ok) (hn : amt.neg = false)
    (hs : Blk w sb (stC cv day amt ⟨false, 0, 1⟩ 0 (fuel : Int) 0 (.slice none 0 0) (.slice none 0 0)) 66) (hT : ∀ W, Below B0 w W → Tab W) :
    Calls Tryz.prog 18 #[.pointer (some ⟨sb, 0, none⟩), .slice (some ⟨b, off, none⟩) l.length c] w (RunPost B0 w sb cv day amt (runI l ch day amt l.length (begin0 fuel))) := by
  have hmf : ∀ (fn : Fn) (first cap : Array Value) (w : World), (Instr.makeFunc fn first cap).run Tryz.prog w = .ok (.func fn first cap) w := fun _ _ _ _ => rfl
  obtain ⟨R, hR⟩ : ∃ R, runI l ch day amt l.length (begin0 fuel) = R := ⟨_, rfl⟩
  rw [hR]
  have hlt := hs.lt
  obtain ⟨n, hN⟩ : ∃ n, l.length = n := ⟨_, rfl⟩
  have HN := Lib.hid hN
  have HR := Lib.hid hR
  have HS := Lib.hid hs
  have HC := Lib.hid hc
  have HT := Lib.hid hT
  have HCH := Lib.hid hch
  have HL := Lib.hid hl
  have hn0 : 0 < n := hN ▸ hl.1
  have hn1 : n ≤ 4096 := hN ▸ hl.2.1
  rw [hN]
  have hblt := hc.1
  have start : Hid (RInv B0 w (((w.alloc (.cells #[.int .i64 0] 31)).alloc (.cells doL.toArray 89))) sb w.heap.size (w.heap.size + 1) b off l cv ch day amt R (begin0 fuel) n (.slice none 0 0) (.slice none 0 0)) := by
    refine ⟨by rw [← hN]; exact hR, by show l.length ≤ n + 0; omega, by show 0 < l.length; omega, show (⟨false, 0, 1⟩ : Rt).ok by decide, rfl, Nat.le_refl _, Nat.le_refl _, by show fuel ≤ _; omega, ⟨(hs.alloc _).alloc _, ⟨rfl, .inl ⟨rfl, rfl⟩⟩, ⟨rfl, .inl ⟨rfl, rfl⟩⟩, fun b _ => ⟨by simp [Value.ownBlock], by simp [Value.ownBlock]⟩, fun g h => by simp [Value.ownBlock] at h⟩, (Blk.new w [.int .i64 0] _).alloc _, ?_, ?_⟩
    · have := Blk.new (w.alloc (.cells #[.int .i64 0] 31)) doL 89
      rwa [World.size_alloc] at this
    · exact ((Below.refl B0 w).alloc hB1 _).alloc (by simp; omega) _
  clear hs hc hT hl hR hN hch
  go_enter_defers Tryz.func18, Tryz.ntmps18
  go_wp2
  go_loopw [6] (fun v wr => ∃ s g uv wv, RInv B0 w wr sb w.heap.size (w.heap.size + 1) b off l cv ch day amt R s g uv wv) (fun _ wr => n - nextOf wr sb)
  case atStart => exact ⟨_, _, _, _, start.out⟩
  case round =>
    obtain ⟨s, g, uv, wv, hI⟩ := hrel
    have HI := Lib.hid hI
    obtain ⟨q8, f8⟩ := hI.inv.st.at 8 _ rfl
    obtain ⟨q9, f9⟩ := hI.inv.st.at 9 _ rfl
    have hnl : s.next < n := by have := hI.lt; have := HN.out; omega
    have hfl := hI.fl
    have hsl := hI.inv.st.lt
    have m1 : ¬ wr.heap.size = sb := by omega
    have m2 : ¬ sb = wr.heap.size := by omega
    clear hI
    by_cases hf0 : s.fuel = 0
    · have hr0 : R.1 = 170 := by
        obtain ⟨g', hg'⟩ : ∃ g', g = g' + 1 := ⟨g - 1, by have := HI.out.gas; have := HI.out.lt; omega⟩
        rw [← HI.out.run, hg', runI, if_pos hf0]
      rw [hf0] at q9
      have HR0 := Lib.hid hr0
      clear hf0 hr0
      go_wp2
      exact run_leaves B0 w.heap.size sb w wr 170 cv day amt R _ rfl HI.out.eb (by omega) hB1 hB1 HI.out.bel HR0.out (fun e => by cases e)
    · obtain ⟨x, hx⟩ : ∃ x, l[s.next]? = some x := ⟨l[s.next]'(by have := HN.out; omega), List.getElem?_eq_getElem (by have := HN.out; omega)⟩
      obtain ⟨c0, c1, c2, c3, c4, c5⟩ := (HC.out.below HI.out.bel hbB).sp hx
      have HX := Lib.hid hx
      clear hx
      obtain ⟨f', hf'⟩ : ∃ f', s.fuel = f' + 1 := ⟨s.fuel - 1, by omega⟩
      have HF := Lib.hid hf'
      have tf : ((s.fuel : Int) == 0) = false := by rw [beq_eq_false_iff_ne]; omega
      have e9 : IntKind.i64.wrap ((s.fuel : Int) - 1) = (f' : Int) := by rw [hf', IntKind.wrap_i64]; omega
      have n1 : ¬ sb = b := by omega
      have n2 : ¬ b = sb := by omega
      clear hf'
      have hvx := HL.out.2.2.1 s.next x HX.out
      have ho : 1 ≤ x.op ∧ x.op ≤ 8 := vld_op hvx
      have ho0 : (0 : Int) ≤ x.op := by omega
      have ho1 : x.op < (9 : Int) := by omega
      go_wp2
      obtain ⟨W1, hW1⟩ : ∃ W1, ((wr.setCell ⟨sb, 9, none⟩ (.int .i64 (f' : Int))).setCell ⟨sb, 8, none⟩ (.int .i64 ((s.next : Int) + 1))).alloc (.cells #[.int .i64 x.op, .int .i64 x.A, .int .i64 x.B, .bool x.neg, .string x.n, .string x.d] 40) = W1 := ⟨_, rfl⟩
      have I1 : MInv B0 W1.drew sb [w.heap.size, w.heap.size + 1] cv day amt { s with fuel := f', next := s.next + 1 } uv wv := by
        rw [← hW1]
        refine HI.out.inv.grown ((((HI.out.inv.st.set 9 _).set 8 _).alloc _).drew) ?_ rfl rfl
        exact (((gr_set _ _ _ _).trans (gr_set _ _ _ _)).trans (gr_alloc _ _ _)).trans (gr_drew _ _)
      have hsz : wr.heap.size < W1.heap.size := by rw [← hW1]; simp [World.setCell]
      have hew : w.heap.size ≠ sb := by omega
      have hdw : w.heap.size + 1 ≠ sb := by omega
      have K1 : Kept B0 w W1.drew sb w.heap.size (w.heap.size + 1) wr.heap.size x uv wv := by
        rw [← hW1]
        refine ⟨?_, hB1, hB0, ((((HI.out.eb.other hew _).other hew _).alloc _).drew), ((((HI.out.db.other hdw _).other hdw _).alloc _).drew), ?_, hew, hdw, m1, fun e => ?_, fun e => ?_⟩
        · exact (((HI.out.bel.setCell (p := ⟨sb, 9, none⟩) hB0 _).setCell (p := ⟨sb, 8, none⟩) hB0 _).alloc (by have := HI.out.bel.size; simp [World.setCell]; omega) _).drew
        · have := Blk.new ((wr.setCell ⟨sb, 9, none⟩ (.int .i64 (f' : Int))).setCell ⟨sb, 8, none⟩ (.int .i64 ((s.next : Int) + 1))) [.int .i64 x.op, .int .i64 x.A, .int .i64 x.B, .bool x.neg, .string x.n, .string x.d] 40
          have e : ((wr.setCell ⟨sb, 9, none⟩ (.int .i64 (f' : Int))).setCell ⟨sb, 8, none⟩ (.int .i64 ((s.next : Int) + 1))).heap.size = wr.heap.size := by simp [World.setCell]
          rw [e] at this
          exact this.drew
        · have := owns_lt HI.out.inv.ru e; omega
        · have := owns_lt HI.out.inv.rk e; omega
      obtain ⟨f, hfd, hen, hcall⟩ := step_call B0 sb w.heap.size (w.heap.size + 1) wr.heap.size cv ch day amt _ uv wv x _ w W1.drew hvx I1 K1 (by show s.next + 1 ≤ _; omega) (by have := HN.out; omega) (by have := HI.out.lu; show s.uses.length ≤ _; omega) (by have := HI.out.lw; show s.works.length ≤ _; omega) HI.out.bat HI.out.pos ha (HT.out _ K1.bel) (HCH.out _ K1.bel)
      have S0 := K1.cells hfd
      have HP := Lib.hid hcall
      unfold inV at HP
      rw [hW1]
      clear hW1 I1 hcall
      have HK1 := Lib.hid K1
      clear K1 q8 f8 q9 f9 c0 c1 c2 c3 c4 c5 e9 tf
      refine wp_region_pan 4 4 (.pointer (some ⟨w.heap.size, 0, none⟩)) (.pointer (some ⟨w.heap.size, 0, none⟩)) [{ target := .fn (.func 36) #[.pointer (some ⟨w.heap.size, 0, none⟩)], args := #[] }] (fun c W => ∃ k, c = stopPanic k ∧ Blk W w.heap.size [.int .i64 0] 31 ∧ Below B0 w W ∧ R.1 = k ∧ (k = 0 → ∃ uv wv, MInv B0 W sb [w.heap.size] cv day amt R.2 uv wv)) ?_ ?_
      · rintro c ⟨tm, df⟩ W hd h4 _ ⟨k, rfl, he, hb, hk, hi⟩
        simp only at hd
        subst hd
        exact run_leaves B0 w.heap.size sb w W k cv day amt R tm h4 he (by omega) hB1 hB1 hb hk hi
      cases hst : stepI ch day amt x { s with fuel := f', next := s.next + 1 } with
      | stop k s2 =>
        rw [hst] at HP
        have HRK : Hid (R = (k, s2)) := by
          obtain ⟨g', hg'⟩ : ∃ g', g = g' + 1 := ⟨g - 1, by have := HI.out.gas; have := HI.out.lt; omega⟩
          show R = (k, s2)
          rw [← HI.out.run, hg', runI, if_neg hf0, HX.out]
          simp only
          rw [show s.fuel - 1 = f' from by have := HF.out; omega, hst]
        clear hst
        -- <stop>
        refine wp_region_held_drew (S := (fun w' => w'.cell? ⟨wr.heap.size, 0, none⟩ = some (.int .i64 x.op) ∧ w'.cell? ⟨wr.heap.size, 1, none⟩ = some (.int .i64 x.A) ∧ w'.cell? ⟨wr.heap.size, 2, none⟩ = some (.int .i64 x.B) ∧ w'.cell? ⟨wr.heap.size, 3, none⟩ = some (.bool x.neg) ∧ w'.cell? ⟨wr.heap.size, 4, none⟩ = some (.string x.n) ∧ w'.cell? ⟨wr.heap.size, 5, none⟩ = some (.string x.d) ∧ w'.cell? ⟨w.heap.size + 1, x.op.toNat, none⟩ = some (.func (.func f) #[] #[]))) (by kernel_rfl) ?_ (fun hHeld => ?_)
        · exact S0
        refine rp_take (i := 0) (v := ?_) rfl (by kernel_rfl) (by kernel_rfl) (by kernel_rfl) (by rfl) (by assumption) ?_ (by exact PanQ.put (by decide) (by decide)) ?_
        rotate_left
        · (intro w hSw; (try dsimp only at hSw); go_simp; try (with_reducible rfl))
        (try simp only [Act.put, List.setIfInBounds_toArray, List.set_cons_zero, List.set_cons_succ])
        refine rp_take (i := 1) (v := ?_) rfl (by kernel_rfl) (by kernel_rfl) (by kernel_rfl) (by rfl) (by assumption) ?_ (by exact PanQ.put (by decide) (by decide)) ?_
        rotate_left
        · (intro w hSw; (try dsimp only at hSw); go_simp; try (with_reducible rfl))
        (try simp only [Act.put, List.setIfInBounds_toArray, List.set_cons_zero, List.set_cons_succ])
        refine rp_take (i := 2) (v := ?_) rfl (by kernel_rfl) (by kernel_rfl) (by kernel_rfl) (by rfl) (by assumption) ?_ (by exact PanQ.put (by decide) (by decide)) ?_
        rotate_left
        · (intro w hSw; (try dsimp only at hSw); go_simp; try (with_reducible rfl))
        (try simp only [Act.put, List.setIfInBounds_toArray, List.set_cons_zero, List.set_cons_succ])
        refine rp_take (i := 3) (v := ?_) rfl (by kernel_rfl) (by kernel_rfl) (by kernel_rfl) (by rfl) (by assumption) ?_ (by exact PanQ.put (by decide) (by decide)) ?_
        rotate_left
        · (intro w hSw; (try dsimp only at hSw); go_simp; try (with_reducible rfl))
        (try simp only [Act.put, List.setIfInBounds_toArray, List.set_cons_zero, List.set_cons_succ])
        refine rp_take (i := 4) (v := ?_) rfl (by kernel_rfl) (by kernel_rfl) (by kernel_rfl) (by rfl) (by assumption) ?_ (by exact PanQ.put (by decide) (by decide)) ?_
        rotate_left
        · (intro w hSw; (try dsimp only at hSw); go_simp; try (with_reducible rfl))
        (try simp only [Act.put, List.setIfInBounds_toArray, List.set_cons_zero, List.set_cons_succ])
        refine rp_take (i := 5) (v := ?_) rfl (by kernel_rfl) (by kernel_rfl) (by kernel_rfl) (by rfl) (by assumption) ?_ (by exact PanQ.put (by decide) (by decide)) ?_
        rotate_left
        · (intro w hSw; (try dsimp only at hSw); go_simp; try (with_reducible rfl))
        (try simp only [Act.put, List.setIfInBounds_toArray, List.set_cons_zero, List.set_cons_succ])
        refine wpAnyH_ready (rs := [6]) (by kernel_rfl) (by simp) ?_
        refine rh_cons (i := 6) rfl (fun K hK => ?_) ?_
        · go_simp
          refine HP.out.mono ?_
          rintro e w2 hp
          obtain ⟨rfl, hb2, he2, hi2⟩ := hp
          have hr2 := HRK.out
          exact ⟨rfl, rfl, rfl, k, rfl, he2, hb2, by rw [hr2], by rw [hr2]; exact hi2⟩
        exact AllReadyH.nil
        -- </stop>
      | go s2 =>
        rw [hst] at HP
        have HST := Lib.hid hst
        have HRG : Hid (∀ g', g = g' + 1 → runI l ch day amt g' s2 = R) := by
          intro g' hg'
          rw [← HI.out.run, hg', runI, if_neg hf0, HX.out]
          simp only
          rw [show s.fuel - 1 = f' from by have := HF.out; omega, hst]
        clear hst
        -- <go>
        refine wp_region_held_drew (S := (fun w' => w'.cell? ⟨wr.heap.size, 0, none⟩ = some (.int .i64 x.op) ∧ w'.cell? ⟨wr.heap.size, 1, none⟩ = some (.int .i64 x.A) ∧ w'.cell? ⟨wr.heap.size, 2, none⟩ = some (.int .i64 x.B) ∧ w'.cell? ⟨wr.heap.size, 3, none⟩ = some (.bool x.neg) ∧ w'.cell? ⟨wr.heap.size, 4, none⟩ = some (.string x.n) ∧ w'.cell? ⟨wr.heap.size, 5, none⟩ = some (.string x.d) ∧ w'.cell? ⟨w.heap.size + 1, x.op.toNat, none⟩ = some (.func (.func f) #[] #[]))) (by kernel_rfl) ?_ (fun hHeld => ?_)
        · exact S0
        refine rp_take (i := 0) (v := ?_) rfl (by kernel_rfl) (by kernel_rfl) (by kernel_rfl) (by rfl) (by assumption) ?_ (by exact PanQ.put (by decide) (by decide)) ?_
        rotate_left
        · (intro w hSw; (try dsimp only at hSw); go_simp; try (with_reducible rfl))
        (try simp only [Act.put, List.setIfInBounds_toArray, List.set_cons_zero, List.set_cons_succ])
        refine rp_take (i := 1) (v := ?_) rfl (by kernel_rfl) (by kernel_rfl) (by kernel_rfl) (by rfl) (by assumption) ?_ (by exact PanQ.put (by decide) (by decide)) ?_
        rotate_left
        · (intro w hSw; (try dsimp only at hSw); go_simp; try (with_reducible rfl))
        (try simp only [Act.put, List.setIfInBounds_toArray, List.set_cons_zero, List.set_cons_succ])
        refine rp_take (i := 2) (v := ?_) rfl (by kernel_rfl) (by kernel_rfl) (by kernel_rfl) (by rfl) (by assumption) ?_ (by exact PanQ.put (by decide) (by decide)) ?_
        rotate_left
        · (intro w hSw; (try dsimp only at hSw); go_simp; try (with_reducible rfl))
        (try simp only [Act.put, List.setIfInBounds_toArray, List.set_cons_zero, List.set_cons_succ])
        refine rp_take (i := 3) (v := ?_) rfl (by kernel_rfl) (by kernel_rfl) (by kernel_rfl) (by rfl) (by assumption) ?_ (by exact PanQ.put (by decide) (by decide)) ?_
        rotate_left
        · (intro w hSw; (try dsimp only at hSw); go_simp; try (with_reducible rfl))
        (try simp only [Act.put, List.setIfInBounds_toArray, List.set_cons_zero, List.set_cons_succ])
        refine rp_take (i := 4) (v := ?_) rfl (by kernel_rfl) (by kernel_rfl) (by kernel_rfl) (by rfl) (by assumption) ?_ (by exact PanQ.put (by decide) (by decide)) ?_
        rotate_left
        · (intro w hSw; (try dsimp only at hSw); go_simp; try (with_reducible rfl))
        (try simp only [Act.put, List.setIfInBounds_toArray, List.set_cons_zero, List.set_cons_succ])
        refine rp_take (i := 5) (v := ?_) rfl (by kernel_rfl) (by kernel_rfl) (by kernel_rfl) (by rfl) (by assumption) ?_ (by exact PanQ.put (by decide) (by decide)) ?_
        rotate_left
        · (intro w hSw; (try dsimp only at hSw); go_simp; try (with_reducible rfl))
        (try simp only [Act.put, List.setIfInBounds_toArray, List.set_cons_zero, List.set_cons_succ])
        refine wpAnyH_ready (rs := [6]) (by kernel_rfl) (by simp) ?_
        refine rh_cons (i := 6) rfl (fun K hK => ?_) ?_
        · go_simp
          refine HP.out.mono ?_
          rintro e w2 hp
          obtain ⟨rfl, uv2, wv2, hi2, hb2, he2, hd2, hs2⟩ := hp
          have S1 := hs2
          have HI2 := Lib.hid hi2
          have HB2 := Lib.hid hb2
          have HE2 := Lib.hid he2
          have HD2 := Lib.hid hd2
          clear hi2 hb2 he2 hd2 hs2
          go_wp2_with fail
          refine hK.out _ _ ?_ (fun hHeld => ?_)
          · (try dsimp only)
            exact S1
          clear hK K
          (try simp only [Act.put, List.setIfInBounds_toArray, List.set_cons_zero, List.set_cons_succ])
          refine wpAnyH_done (by kernel_rfl) ?_ _
          refine PanQ.normal ?_
          go_wp2
          obtain ⟨g', hg'⟩ : ∃ g', g = g' + 1 := ⟨g - 1, by have := HI.out.gas; have := HI.out.lt; omega⟩
          obtain ⟨p1, p2, p3, p4, p5, p6, p7⟩ := step_next (s := { s with fuel := f', next := s.next + 1 }) HL.out HX.out rfl HI.out.bat HI.out.pos ha hn HST.out
          have r1 := HI.out.gas
          have r2 := HI.out.lu
          have r3 := HI.out.lw
          have r4 := HN.out
          simp only at p5 p6 p7
          refine ⟨⟨s2, g', uv2, wv2, ⟨HRG.out g' hg', by omega, p1, p3, p4, by omega, by omega, by have := HF.out; omega, HI2.out, HE2.out, HD2.out, HB2.out⟩⟩, ?_⟩
          rw [nextOf_eq HI2.out.st, nextOf_eq HI.out.inv.st]
          omega
        exact AllReadyH.nil
        -- </go>
end Go.Proofs.YtoolanjbmbcaiaaGreatDoor
namespace Go.Proofs.YtoolanjbmbcaiaaGreatDoor
open Go.RowKit Bf

/-- What Run computes. -/
noncomputable def runE (l : List In) (c : List Int) (neg : Bool) (n d : ByteArray) (fuel : Int) : Int × Mst :=
  open Classical in
  if ¬ progOk l then (171, begin0 0) else if ¬ RatS neg n d then (70, begin0 0) else if neg = true ∨ c = [] ∨ fuel < 0 then (1, begin0 0)
  else runI l c.dropLast (c.getLast?.getD 0) ⟨neg, bv n, bv d⟩ l.length (begin0 fuel.toNat)

/-- What Run leaves. -/
def RunRes (w : World) (R : Int × Mst) (e : Ending) (w' : World) : Prop :=
  Below w.heap.size w w' ∧ ((R.1 = 0 ∧ ∃ uv wv, e = .returned (.tuple #[uv, wv, .int .i64 R.2.lead, .int .i64 (R.2.fuel : Int), .int .i64 0]) ∧ w'.ownsRow w.heap.size 58 6 uv R.2.uses.length (useC R.2.uses) ∧ w'.ownsRow w.heap.size 60 2 wv R.2.works.length (workC R.2.works)) ∨
    (R.1 ≠ 0 ∧ e = .returned (.tuple #[.slice none 0 0, .slice none 0 0, .int .i64 0, .int .i64 0, .int .i64 R.1])))

/-- A program as a value. -/
def CodeV (w : World) (v : Value) (l : List In) : Prop := ∃ A cap, v = .slice A l.length cap ∧ (l = [] ∨ ∃ b off, A = some ⟨b, off, none⟩ ∧ CodeAt w b off l)
/-- Choices as a value. -/
def IntsV (w : World) (v : Value) (c : List Int) : Prop := ∃ A cap, v = .slice A c.length cap ∧ c.length ≤ cap ∧ ∀ (i : Nat) (z : Int), c[i]? = some z → ∃ b off, A = some ⟨b, off, none⟩ ∧ b < w.heap.size ∧ w.cell? ⟨b, off + i, none⟩ = some (.int .i64 z)
theorem CodeV.below {w W : World} {v : Value} {l : List In} (h : CodeV w v l) (hb : Below w.heap.size w W) : CodeV W v l := by
  obtain ⟨A, cap, rfl, h | ⟨b, off, rfl, h⟩⟩ := h
  · exact ⟨A, cap, rfl, .inl h⟩
  · exact ⟨_, cap, rfl, .inr ⟨b, off, rfl, h.below hb h.1⟩⟩
theorem IntsV.below {w W : World} {v : Value} {c : List Int} (h : IntsV w v c) (hb : Below w.heap.size w W) : IntsV W v c := by
  obtain ⟨A, cap, rfl, h0, h⟩ := h
  refine ⟨A, cap, rfl, h0, fun i z hz => ?_⟩
  obtain ⟨b, off, e, hl, hc⟩ := h i z hz
  exact ⟨b, off, e, Nat.lt_of_lt_of_le hl hb.size, (hb.cell (p := ⟨b, _, none⟩) hl).trans hc⟩
theorem mcheck_any {w : World} {v : Value} {l : List In} (h : CodeV w v l) (hl : l.length ≤ 4096) (hT : Tab w) : Calls Tryz.prog 9 #[v] w (Ret w (.int .i64 (progE l))) := by
  obtain ⟨A, cap, rfl, rfl | ⟨b, off, rfl, h⟩⟩ := h
  · rw [progE_no (fun h => by have := h.1; simp at this)]
    exact mcheck_none A cap w
  · rcases Nat.eq_zero_or_pos l.length with h0 | h0
    · rw [h0, progE_no (fun h => by have := h.1; omega)]
      exact mcheck_none _ cap w
    · exact mcheck_some b off cap l w h h0 hl hT

theorem runE_code {l : List In} (h : ¬ progOk l) (c : List Int) (neg : Bool) (n d : ByteArray) (fuel : Int) : runE l c neg n d fuel = (171, begin0 0) := by unfold runE; rw [if_pos h]
theorem runE_rat {l : List In} (h : progOk l) (c : List Int) {neg : Bool} {n d : ByteArray} (h' : ¬ RatS neg n d) (fuel : Int) : runE l c neg n d fuel = (70, begin0 0) := by unfold runE; rw [if_neg (by simpa using h), if_pos h']
theorem runE_arg {l : List In} (h : progOk l) {c : List Int} {neg : Bool} {n d : ByteArray} (h' : RatS neg n d) {fuel : Int} (h2 : neg = true ∨ c = [] ∨ fuel < 0) : runE l c neg n d fuel = (1, begin0 0) := by unfold runE; rw [if_neg (by simpa using h), if_neg (by simpa using h'), if_pos h2]
theorem runE_run {l : List In} (h : progOk l) {c : List Int} {neg : Bool} {n d : ByteArray} (h' : RatS neg n d) {fuel : Int} (h2 : ¬ (neg = true ∨ c = [] ∨ fuel < 0)) : runE l c neg n d fuel = runI l c.dropLast (c.getLast?.getD 0) ⟨neg, bv n, bv d⟩ l.length (begin0 fuel.toNat) := by unfold runE; rw [if_neg (by simpa using h), if_neg (by simpa using h'), if_neg h2]

set_option maxRecDepth 100000 in
set_option maxHeartbeats 4000000 in
theorem Run_any (v cv : Value) (l : List In) (c : List Int) (neg : Bool) (n d : ByteArray) (fuel : Int) (w : World) (hv : CodeV w v l) (hl : l.length ≤ 4096) (hc : IntsV w cv c) (hcl : c.length ≤ 4096) (hf : fuel < 9223372036854775808) (hT : Tab w) :
    Calls Tryz.prog 7 #[v, cv, .agg #[.bool neg, .string n, .string d], .int .i64 fuel] w (RunRes w (runE l c neg n d fuel)) := by
  have HV := Lib.hid hv
  have HC := Lib.hid hc
  have HT := Lib.hid hT
  have HM := Lib.hid (fun W (hW : Below w.heap.size w W) => mcheck_any (hv.below hW) hl (hT.below hW))
  have HK := Lib.hid (fun W (hW : Below w.heap.size w W) => rcheck_any neg n d W (hT.below hW))
  clear hv hc hT
  by_cases h1 : progOk l
  · rw [progE_ok h1] at HM
    by_cases h2 : RatS neg n d
    · rw [rchk_ok h2] at HK
      by_cases h3 : neg = true ∨ c = [] ∨ fuel < 0
      · rw [runE_arg h1 h2 h3]
        obtain ⟨A, cap, rfl, _, _⟩ := HC.out
        by_cases hn : neg = true
        · subst hn
          clear h3
          go_enter Tryz.func7, Tryz.ntmps7
          go_wp2_with fail
          refine (HM.out _ ((Below.refl w.heap.size w).alloc (Nat.le_refl _) _)).mono ?_
          rintro e w1 ⟨rfl, hb1⟩
          obtain ⟨hc1, hf1⟩ := bcell hb1
          have hy1 : w.heap.size < w1.heap.size := by have := hb1.size; simp at this; omega
          have HB1 := Lib.hid (((Below.refl w.heap.size w).alloc (Nat.le_refl _) _).trans (hb1.mono (by simp)))
          clear hb1
          go_wp2_with fail
          refine (HK.out _ HB1.out).mono ?_
          rintro e w2 ⟨rfl, hb2⟩
          obtain ⟨hc2, hf2⟩ := bcell hb2
          have hy2 : w.heap.size < w2.heap.size := by have := hb2.size; omega
          have HB2 := Lib.hid (HB1.out.trans (hb2.mono HB1.out.size))
          clear hb2
          go_wp2
          refine bodyPost_ret (v := .tuple #[.slice none 0 0, .slice none 0 0, .int .i64 0, .int .i64 0, .int .i64 1]) (by simp [results, Tryz.results7, go_sem]) rfl ⟨HB2.out, .inr ⟨by decide, rfl⟩⟩
        · have hn' : neg = false := by simpa using hn
          subst hn'
          clear hn
          by_cases h0 : c.length = 0
          · rw [h0] at *
            clear h3
            go_enter Tryz.func7, Tryz.ntmps7
            go_wp2_with fail
            refine (HM.out _ ((Below.refl w.heap.size w).alloc (Nat.le_refl _) _)).mono ?_
            rintro e w1 ⟨rfl, hb1⟩
            obtain ⟨hc1, hf1⟩ := bcell hb1
            have hy1 : w.heap.size < w1.heap.size := by have := hb1.size; simp at this; omega
            have HB1 := Lib.hid (((Below.refl w.heap.size w).alloc (Nat.le_refl _) _).trans (hb1.mono (by simp)))
            clear hb1
            go_wp2_with fail
            refine (HK.out _ HB1.out).mono ?_
            rintro e w2 ⟨rfl, hb2⟩
            obtain ⟨hc2, hf2⟩ := bcell hb2
            have hy2 : w.heap.size < w2.heap.size := by have := hb2.size; omega
            have HB2 := Lib.hid (HB1.out.trans (hb2.mono HB1.out.size))
            clear hb2
            go_wp2
            refine bodyPost_ret (v := .tuple #[.slice none 0 0, .slice none 0 0, .int .i64 0, .int .i64 0, .int .i64 1]) (by simp [results, Tryz.results7, go_sem]) rfl ⟨HB2.out, .inr ⟨by decide, rfl⟩⟩
          · have hf0 : fuel < 0 := by
              rcases h3 with h | h | h
              · cases h
              · exact absurd (by rw [h]; rfl) h0
              · exact h
            have t0 : ((c.length : Int) == 0) = false := by rw [beq_eq_false_iff_ne]; omega
            have t1 : decide (fuel < 0) = true := by simpa using hf0
            clear h3
            go_enter Tryz.func7, Tryz.ntmps7
            go_wp2_with fail
            refine (HM.out _ ((Below.refl w.heap.size w).alloc (Nat.le_refl _) _)).mono ?_
            rintro e w1 ⟨rfl, hb1⟩
            obtain ⟨hc1, hf1⟩ := bcell hb1
            have hy1 : w.heap.size < w1.heap.size := by have := hb1.size; simp at this; omega
            have HB1 := Lib.hid (((Below.refl w.heap.size w).alloc (Nat.le_refl _) _).trans (hb1.mono (by simp)))
            clear hb1
            go_wp2_with fail
            refine (HK.out _ HB1.out).mono ?_
            rintro e w2 ⟨rfl, hb2⟩
            obtain ⟨hc2, hf2⟩ := bcell hb2
            have hy2 : w.heap.size < w2.heap.size := by have := hb2.size; omega
            have HB2 := Lib.hid (HB1.out.trans (hb2.mono HB1.out.size))
            clear hb2
            go_wp2
            refine bodyPost_ret (v := .tuple #[.slice none 0 0, .slice none 0 0, .int .i64 0, .int .i64 0, .int .i64 1]) (by simp [results, Tryz.results7, go_sem]) rfl ⟨HB2.out, .inr ⟨by decide, rfl⟩⟩
      · rw [runE_run h1 h2 h3]
        have hn' : neg = false := by
          cases neg
          · rfl
          · exact absurd (.inl rfl) h3
        subst hn'
        obtain ⟨r, hr, hrn, hr1, hr2⟩ := h2.to
        obtain ⟨rn, ra, rb⟩ := r
        simp only at hrn hr1 hr2
        subst hrn
        subst hr1
        subst hr2
        rw [bv_bs, bv_bs]
        have hc0 : c ≠ [] := fun e => h3 (.inr (.inl e))
        obtain ⟨k, hk⟩ : ∃ k : Nat, c.length = k + 1 := ⟨c.length - 1, by have := List.length_pos_iff.2 hc0; omega⟩
        obtain ⟨f, rfl⟩ := Int.eq_ofNat_of_zero_le (show 0 ≤ fuel from by rcases Int.lt_or_le fuel 0 with h | h; exact absurd (.inr (.inr h)) h3; exact h)
        rw [Int.toNat_natCast]
        have hlast : c[k]? = some (c.getLast?.getD 0) := by
          rw [List.getLast?_eq_getElem?, hk, Nat.add_sub_cancel]
          have : k < c.length := by omega
          rw [List.getElem?_eq_getElem this]; rfl
        obtain ⟨A, cap, hcv, hcap, hcc⟩ := HC.out
        obtain ⟨cb, co, rfl, hcb, hday⟩ := hcc k _ hlast
        subst hcv
        obtain ⟨day, hdd⟩ : ∃ day, c.getLast?.getD 0 = day := ⟨_, rfl⟩
        rw [hdd] at hday ⊢
        rw [hk] at hcap ⊢
        have HCH : Hid (∀ W, Below w.heap.size w W → ChAt W (.slice (some ⟨cb, co, none⟩) k cap) c.dropLast) := by
          intro W hW
          refine ⟨_, cap, by rw [List.length_dropLast, hk, Nat.add_sub_cancel], fun i z hz => ?_⟩
          have hz' : c[i]? = some z := by
            rw [List.getElem?_dropLast] at hz
            split at hz
            · exact hz
            · cases hz
          obtain ⟨b', o', e', hl', hc'⟩ := hcc i z hz'
          cases e'
          exact ⟨_, _, rfl, Nat.lt_of_lt_of_le hl' hW.size, (hW.cell (p := ⟨cb, _, none⟩) hl').trans hc'⟩
        have HNW := Lib.hid (fun W (hW : Below w.heap.size w W) => show Calls Tryz.prog 17 #[.int .i64 0, .int .i64 1] W (Ret W (.tuple #[.agg #[.bool false, .string (bs 0), .string (bs 1)], .int .i64 0])) from new_ok 0 1 W (by omega) (by omega) (by omega) (HT.out.below hW))
        have t0 : ((k : Int) + 1 == 0) = false := by rw [beq_eq_false_iff_ne]; omega
        have t1 : decide ((f : Int) < 0) = false := by simp
        have hday' : ∀ W, Below w.heap.size w W → W.cell? ⟨cb, co + k, none⟩ = some (.int .i64 day) := fun W hW => (hW.cell (p := ⟨cb, co + k, none⟩) hcb).trans hday
        have HDAY := Lib.hid hday'
        have hk4 : k ≤ 4096 := by omega
        have hkc : (k : Int) ≤ (cap : Int) := by omega
        have hk0 : (0 : Int) ≤ (k : Int) := by omega
        have hk5 : (k : Int) < (k : Int) + 1 := by omega
        have H1 := Lib.hid h1
        have HRO := Lib.hid hr
        have HKK := Lib.hid hk
        clear h1 h2 h3 hcc hday hday' hlast hdd hr hk hc0
        generalize c.dropLast = ch at *
        obtain ⟨Av, vcap, rfl, hvl | ⟨vb, vo, rfl, hcode⟩⟩ := HV.out
        · exact absurd (H1.out.1) (by rw [hvl]; simp)
        have hvb := hcode.1
        have HCODE := Lib.hid hcode
        obtain ⟨R, hR⟩ : ∃ R, runI l ch day ⟨false, ra, rb⟩ l.length (begin0 f) = R := ⟨_, rfl⟩
        have HRN := Lib.hid (fun (sb : Nat) (W : World) (hB : Below w.heap.size w W) (hsb : w.heap.size ≤ sb) (hblk : Blk W sb (stC (.slice (some ⟨cb, co, none⟩) k cap) day ⟨false, ra, rb⟩ ⟨false, 0, 1⟩ 0 (f : Int) 0 (.slice none 0 0) (.slice none 0 0)) 66) => run_any w.heap.size sb vb vo vcap f l (.slice (some ⟨cb, co, none⟩) k cap) ch day ⟨false, ra, rb⟩ W H1.out (hcode.below hB hcode.1) hcode.1 (fun W' hW' => HCH.out W' (hB.trans hW')) hsb hB.size (by omega) HRO.out rfl hblk (fun W' hW' => HT.out.below (hB.trans hW')))
        rw [hR] at HRN ⊢
        unfold stC at HRN
        simp only at HRN
        clear hcode hR
        generalize bs ra = sn at *
        generalize bs rb = sd at *
        go_enter Tryz.func7, Tryz.ntmps7
        go_wp2_with fail
        refine (HM.out _ ((Below.refl w.heap.size w).alloc (Nat.le_refl _) _)).mono ?_
        rintro e w1 ⟨rfl, hb1⟩
        obtain ⟨hc1, hf1⟩ := bcell hb1
        have hy1 : w.heap.size < w1.heap.size := by have := hb1.size; simp at this; omega
        have HB1 := Lib.hid (((Below.refl w.heap.size w).alloc (Nat.le_refl _) _).trans (hb1.mono (by simp)))
        clear hb1
        go_wp2_with fail
        refine (HK.out _ HB1.out).mono ?_
        rintro e w2 ⟨rfl, hb2⟩
        obtain ⟨hc2, hf2⟩ := bcell hb2
        have hy2 : w.heap.size < w2.heap.size := by have := hb2.size; omega
        have HB2 := Lib.hid (HB1.out.trans (hb2.mono HB1.out.size))
        clear hb2
        go_wp2_with fail
        refine (HNW.out _ HB2.out).mono ?_
        rintro e w3 ⟨rfl, hb3⟩
        obtain ⟨hc3, hf3⟩ := bcell hb3
        have hy3 : w.heap.size < w3.heap.size := by have := hb3.size; omega
        have HB3 := Lib.hid (HB2.out.trans (hb3.mono HB2.out.size))
        clear hb3
        go_wp2
        obtain ⟨W4, hW4⟩ : ∃ W4, w3.alloc (.cells #[.bool false, .string (bs 0), .string (bs 1)] 25) = W4 := ⟨_, rfl⟩
        have HB4 : Hid (Below w.heap.size w W4) := by rw [← hW4]; exact HB3.out.alloc HB3.out.size _
        have S0 : W4.drew.cell? ⟨cb, co + k, none⟩ = some (.int .i64 day) ∧ W4.drew.cell? ⟨w.heap.size, 0, none⟩ = some (.bool false) ∧ W4.drew.cell? ⟨w.heap.size, 1, none⟩ = some (.string sn) ∧ W4.drew.cell? ⟨w.heap.size, 2, none⟩ = some (.string sd) ∧ W4.drew.cell? ⟨w3.heap.size, 0, none⟩ = some (.bool false) ∧ W4.drew.cell? ⟨w3.heap.size, 1, none⟩ = some (.string (bs 0)) ∧ W4.drew.cell? ⟨w3.heap.size, 2, none⟩ = some (.string (bs 1)) := by
          refine ⟨HDAY.out _ HB4.out.drew, ?_⟩
          rw [← hW4]
          have a0 : ∀ i, (w3.alloc (.cells #[.bool false, .string (bs 0), .string (bs 1)] 25)).drew.cell? ⟨w.heap.size, i, none⟩ = w3.cell? ⟨w.heap.size, i, none⟩ := fun i => World.cell?_alloc_lt w3 _ ⟨w.heap.size, i, none⟩ hy3
          refine ⟨?_, ?_, ?_, ?_⟩
          · rw [a0, hc3 _ _ hy2, hc2 _ _ hy1, hc1 _ _ (by simp)]; simp [go_sem]
          · rw [a0, hc3 _ _ hy2, hc2 _ _ hy1, hc1 _ _ (by simp)]; simp [go_sem]
          · rw [a0, hc3 _ _ hy2, hc2 _ _ hy1, hc1 _ _ (by simp)]; simp [go_sem]
          · have := (Blk.new w3 [.bool false, .string (bs 0), .string (bs 1)] 25).drew
            exact ⟨(this.at 0 _ rfl).1, (this.at 1 _ rfl).1, (this.at 2 _ rfl).1⟩
        rw [hW4]
        clear hW4 hc1 hf1 hc2 hf2 hc3 hf3
        -- <Run>
        refine wp_region_held_drew (S := (fun w' => w'.cell? ⟨cb, co + k, none⟩ = some (.int .i64 day) ∧ w'.cell? ⟨w.heap.size, 0, none⟩ = some (.bool false) ∧ w'.cell? ⟨w.heap.size, 1, none⟩ = some (.string sn) ∧ w'.cell? ⟨w.heap.size, 2, none⟩ = some (.string sd) ∧ w'.cell? ⟨w3.heap.size, 0, none⟩ = some (.bool false) ∧ w'.cell? ⟨w3.heap.size, 1, none⟩ = some (.string (bs 0)) ∧ w'.cell? ⟨w3.heap.size, 2, none⟩ = some (.string (bs 1)))) (by kernel_rfl) ?_ (fun hHeld => ?_)
        · exact S0
        refine rp_take (i := 0) (v := ?_) rfl (by kernel_rfl) (by kernel_rfl) (by kernel_rfl) (by rfl) (by assumption) ?_ (by exact fun _ _ _ h => h) ?_
        rotate_left
        · (intro w hSw; (try dsimp only at hSw); go_simp; try (with_reducible rfl))
        (try simp only [Act.put, List.setIfInBounds_toArray, List.set_cons_zero, List.set_cons_succ])
        refine rp_take (i := 1) (v := ?_) rfl (by kernel_rfl) (by kernel_rfl) (by kernel_rfl) (by rfl) (by assumption) ?_ (by exact fun _ _ _ h => h) ?_
        rotate_left
        · (intro w hSw; (try dsimp only at hSw); go_simp; try (with_reducible rfl))
        (try simp only [Act.put, List.setIfInBounds_toArray, List.set_cons_zero, List.set_cons_succ])
        refine rp_take (i := 2) (v := ?_) rfl (by kernel_rfl) (by kernel_rfl) (by kernel_rfl) (by rfl) (by assumption) ?_ (by exact fun _ _ _ h => h) ?_
        rotate_left
        · (intro w hSw; (try dsimp only at hSw); go_simp; try (with_reducible rfl))
        (try simp only [Act.put, List.setIfInBounds_toArray, List.set_cons_zero, List.set_cons_succ])
        refine rp_take (i := 3) (v := ?_) rfl (by kernel_rfl) (by kernel_rfl) (by kernel_rfl) (by rfl) (by assumption) ?_ (by exact fun _ _ _ h => h) ?_
        rotate_left
        · (intro w hSw; (try dsimp only at hSw); go_simp; try (with_reducible rfl))
        (try simp only [Act.put, List.setIfInBounds_toArray, List.set_cons_zero, List.set_cons_succ])
        refine rp_take (i := 4) (v := ?_) rfl (by kernel_rfl) (by kernel_rfl) (by kernel_rfl) (by rfl) (by assumption) ?_ (by exact fun _ _ _ h => h) ?_
        rotate_left
        · (intro w hSw; (try dsimp only at hSw); go_simp; try (with_reducible rfl))
        (try simp only [Act.put, List.setIfInBounds_toArray, List.set_cons_zero, List.set_cons_succ])
        refine rp_take (i := 5) (v := ?_) rfl (by kernel_rfl) (by kernel_rfl) (by kernel_rfl) (by rfl) (by assumption) ?_ (by exact fun _ _ _ h => h) ?_
        rotate_left
        · (intro w hSw; (try dsimp only at hSw); go_simp; try (with_reducible rfl))
        (try simp only [Act.put, List.setIfInBounds_toArray, List.set_cons_zero, List.set_cons_succ])
        refine rp_take (i := 6) (v := ?_) rfl (by kernel_rfl) (by kernel_rfl) (by kernel_rfl) (by rfl) (by assumption) ?_ (by exact fun _ _ _ h => h) ?_
        rotate_left
        · (intro w hSw; (try dsimp only at hSw); go_simp; try (with_reducible rfl))
        (try simp only [Act.put, List.setIfInBounds_toArray, List.set_cons_zero, List.set_cons_succ])
        refine rp_take (i := 7) (v := ?_) rfl (by kernel_rfl) (by kernel_rfl) (by kernel_rfl) (by rfl) (by assumption) ?_ (by exact fun _ _ _ h => h) ?_
        rotate_left
        · (intro w hSw; (try dsimp only at hSw); go_simp; try (with_reducible rfl))
        (try simp only [Act.put, List.setIfInBounds_toArray, List.set_cons_zero, List.set_cons_succ])
        refine rp_take (i := 8) (v := ?_) rfl (by kernel_rfl) (by kernel_rfl) (by kernel_rfl) (by rfl) (by assumption) ?_ (by exact fun _ _ _ h => h) ?_
        rotate_left
        · (intro w hSw; (try dsimp only at hSw); go_simp; try (with_reducible rfl))
        (try simp only [Act.put, List.setIfInBounds_toArray, List.set_cons_zero, List.set_cons_succ])
        refine rp_take (i := 9) (v := ?_) rfl (by kernel_rfl) (by kernel_rfl) (by kernel_rfl) (by rfl) (by assumption) ?_ (by exact fun _ _ _ h => h) ?_
        rotate_left
        · (intro w hSw; (try dsimp only at hSw); go_simp; try (with_reducible rfl))
        (try simp only [Act.put, List.setIfInBounds_toArray, List.set_cons_zero, List.set_cons_succ])
        refine rp_take (i := 10) (v := ?_) rfl (by kernel_rfl) (by kernel_rfl) (by kernel_rfl) (by rfl) (by assumption) ?_ (by exact fun _ _ _ h => h) ?_
        rotate_left
        · (intro w hSw; (try dsimp only at hSw); go_simp; try (with_reducible rfl))
        (try simp only [Act.put, List.setIfInBounds_toArray, List.set_cons_zero, List.set_cons_succ])
        refine wpAnyH_ready (rs := [11]) (by kernel_rfl) (by simp) ?_
        refine rh_cons (i := 11) rfl (fun K hK => ?_) ?_
        · go_simp
          have hb5 := below_alloc_drew W4 (.cells ([.slice (some ⟨cb, co, none⟩) k cap, .int .i64 day, .bool false, .string sn, .string sd, .bool false, .string (bs 0), .string (bs 1), .int .i64 0, .int .i64 (f : Int), .int .i64 0, .slice none 0 0, .slice none 0 0] : List Value).toArray 66)
          have S1 := And.intro (keep_cell hHeld.1 hb5) (And.intro (keep_cell hHeld.2.1 hb5) (And.intro (keep_cell hHeld.2.2.1 hb5) (And.intro (keep_cell hHeld.2.2.2.1 hb5) (And.intro (keep_cell hHeld.2.2.2.2.1 hb5) (And.intro (keep_cell hHeld.2.2.2.2.2.1 hb5) (keep_cell hHeld.2.2.2.2.2.2 hb5))))))
          refine hK.out _ _ ?_ (fun hHeld => ?_)
          · (try dsimp only)
            exact S1
          clear hK K
          (try simp only [Act.put, List.setIfInBounds_toArray, List.set_cons_zero, List.set_cons_succ])
          refine rp_take (i := 12) (v := ?_) rfl (by kernel_rfl) (by kernel_rfl) (by kernel_rfl) (by rfl) (by assumption) ?_ (by exact fun _ _ _ h => h) ?_
          rotate_left
          · (intro w hSw; (try dsimp only at hSw); go_simp; try (with_reducible rfl))
          (try simp only [Act.put, List.setIfInBounds_toArray, List.set_cons_zero, List.set_cons_succ])
          refine wpAnyH_done (by kernel_rfl) ?_ _
          go_wp2_with fail
          refine (HRN.out W4.heap.size _ ((HB4.out.alloc HB4.out.size _).drew) HB4.out.size ((Blk.new W4 _ _).drew)).mono ?_
          rintro e w6 ⟨rfl, hb6, hm6⟩
          have HB6 := Lib.hid (((HB4.out.alloc HB4.out.size (.cells ([.slice (some ⟨cb, co, none⟩) k cap, .int .i64 day, .bool false, .string sn, .string sd, .bool false, .string (bs 0), .string (bs 1), .int .i64 0, .int .i64 (f : Int), .int .i64 0, .slice none 0 0, .slice none 0 0] : List Value).toArray 66)).drew).trans hb6)
          have HM6 := Lib.hid hm6
          clear hb6 hm6 S0 S1
          by_cases hr0 : R.1 = 0
          · rw [hr0]
            obtain ⟨uv, wv, hi⟩ := HM6.out hr0
            obtain ⟨q9, f9⟩ := hi.st.at 9 _ rfl
            obtain ⟨q10, f10⟩ := hi.st.at 10 _ rfl
            obtain ⟨q11, f11⟩ := hi.st.at 11 _ rfl
            obtain ⟨q12, f12⟩ := hi.st.at 12 _ rfl
            have HI := Lib.hid hi
            have HR0 := Lib.hid hr0
            clear hi hr0
            go_wp2
            go_quiet (fail)
            go_wp2
            refine bodyPost_ret (v := .tuple #[uv, wv, .int .i64 R.2.lead, .int .i64 (R.2.fuel : Int), .int .i64 0]) (by simp [results, Tryz.results7, go_sem]) rfl ⟨?_, .inl ⟨HR0.out, uv, wv, rfl, ?_, ?_⟩⟩
            · exact ⟨HB6.out.os, HB6.out.tape, HB6.out.output, HB6.out.size, HB6.out.block⟩
            · exact owns_of HI.out.ru (fun g hg => rfl)
            · exact owns_of HI.out.rk (fun g hg => rfl)
          · have t6 : (R.1 != 0) = true := by rw [bne_iff_ne]; exact hr0
            have HR0 := Lib.hid hr0
            clear hr0
            go_wp2
            exact bodyPost_ret (v := .tuple #[.slice none 0 0, .slice none 0 0, .int .i64 0, .int .i64 0, .int .i64 R.1]) (by simp [results, Tryz.results7, go_sem]) rfl ⟨HB6.out, .inr ⟨HR0.out, rfl⟩⟩
        exact AllReadyH.nil
        -- </Run>
    · rw [runE_rat h1 c h2 fuel]
      rw [rchk_no h2] at HK
      go_enter Tryz.func7, Tryz.ntmps7
      go_wp2_with fail
      refine (HM.out _ ((Below.refl w.heap.size w).alloc (Nat.le_refl _) _)).mono ?_
      rintro e w1 ⟨rfl, hb1⟩
      obtain ⟨hc1, hf1⟩ := bcell hb1
      have HB1 := Lib.hid (((Below.refl w.heap.size w).alloc (Nat.le_refl _) _).trans (hb1.mono (by simp)))
      clear hb1
      go_wp2_with fail
      refine (HK.out _ HB1.out).mono ?_
      rintro e w2 ⟨rfl, hb2⟩
      have HB2 := Lib.hid (HB1.out.trans (hb2.mono HB1.out.size))
      clear hb2
      go_wp2
      refine bodyPost_ret (v := .tuple #[.slice none 0 0, .slice none 0 0, .int .i64 0, .int .i64 0, .int .i64 70]) (by simp [results, Tryz.results7, go_sem]) rfl ⟨HB2.out, .inr ⟨by decide, rfl⟩⟩
  · rw [runE_code h1]
    rw [progE_no h1] at HM
    go_enter Tryz.func7, Tryz.ntmps7
    go_wp2_with fail
    refine (HM.out _ ((Below.refl w.heap.size w).alloc (Nat.le_refl _) _)).mono ?_
    rintro e w1 ⟨rfl, hb1⟩
    have HB1 := Lib.hid (((Below.refl w.heap.size w).alloc (Nat.le_refl _) _).trans (hb1.mono (by simp)))
    clear hb1
    go_wp2
    refine bodyPost_ret (v := .tuple #[.slice none 0 0, .slice none 0 0, .int .i64 0, .int .i64 0, .int .i64 171]) (by simp [results, Tryz.results7, go_sem]) rfl ⟨HB1.out, .inr ⟨by decide, rfl⟩⟩
end Go.Proofs.YtoolanjbmbcaiaaGreatDoor
namespace Go.Proofs.YtoolanjbmbcaiaaGreatDoor
open Go.RowKit Bf

set_option maxRecDepth 100000 in
theorem ratio_ok (n d : Nat) (w : World) (hn : n < 9223372036854775808) (hd : d < 9223372036854775808) (h0 : 0 < d) (hT : Tab w) : Calls Tryz.prog 13 #[.int .i64 (n : Int), .int .i64 (d : Int)] w (Ret w (ratV (lowR false n d))) := by
  have HN := Lib.hid (fun W (hW : Tab W) => new_ok n d W hn hd h0 hW)
  have HT := Lib.hid hT
  clear hT hn hd h0
  unfold ratV at *
  generalize lowR false n d = r at *
  go_enter Tryz.func13, Tryz.ntmps13
  go_wp2_with fail
  refine (HN.out _ (HT.out.below ((Below.refl w.heap.size w).alloc (Nat.le_refl _) _))).mono ?_
  rintro e w1 ⟨rfl, hb1⟩
  obtain ⟨hc1, hf1⟩ := bcell hb1
  have hy1 : w.heap.size < w1.heap.size := by have := hb1.size; simp at this; omega
  have hy2 : ¬ w1.heap.size = w.heap.size := by omega
  have hy3 : ¬ w.heap.size = w1.heap.size := by omega
  have HB1 := Lib.hid (((Below.refl w.heap.size w).alloc (Nat.le_refl _) _).trans (hb1.mono (by simp)))
  have q0 : w1.cell? ⟨w.heap.size, 0, none⟩ = some (.bool false) := by rw [hc1 _ _ (by simp)]; simp [go_sem]
  have q1 : w1.cell? ⟨w.heap.size, 1, none⟩ = some (.string ⟨#[]⟩) := by rw [hc1 _ _ (by simp)]; simp [go_sem]
  have q2 : w1.cell? ⟨w.heap.size, 2, none⟩ = some (.string ⟨#[]⟩) := by rw [hc1 _ _ (by simp)]; simp [go_sem]
  clear hb1
  go_wp2
  refine bodyPost_ret (v := .agg #[.bool r.neg, .string (bs r.n), .string (bs r.d)]) (by simp [results, Tryz.results13, go_sem, q0, q1, q2, hy1]) rfl ⟨rfl, ?_⟩
  exact (((HB1.out.setCell (p := ⟨w.heap.size, 0, none⟩) (Nat.le_refl _) _).setCell (p := ⟨w.heap.size, 1, none⟩) (Nat.le_refl _) _).setCell (p := ⟨w.heap.size, 2, none⟩) (Nat.le_refl _) _).alloc (by simp [World.setCell]; omega) _

theorem fewR_any (neg : Bool) (n d : ByteArray) (w : World) : Calls Tryz.prog 6 #[.agg #[.bool neg, .string n, .string d]] w (Ret w (.bool (decide (n.size ≤ 40) && decide (d.size ≤ 40)))) := by
  by_cases h1 : n.size ≤ 40
  · have t1 : decide (n.size ≤ 40) = true := by simpa using h1
    have t1' : decide ((n.size : Int) ≤ 40) = true := by simp; omega
    by_cases h2 : d.size ≤ 40
    · have t2 : decide (d.size ≤ 40) = true := by simpa using h2
      have t2' : decide ((d.size : Int) ≤ 40) = true := by simp; omega
      go_enter Tryz.func6, Tryz.ntmps6
      go_wp2
      go_ret
      exact ⟨by first | rfl | simp [t1, t2], (Below.refl _ _).alloc (Nat.le_refl _) _⟩
    · have t2 : decide (d.size ≤ 40) = false := by simpa using h2
      have t2' : decide ((d.size : Int) ≤ 40) = false := by simp; omega
      go_enter Tryz.func6, Tryz.ntmps6
      go_wp2
      go_ret
      exact ⟨by first | rfl | simp [t1, t2], (Below.refl _ _).alloc (Nat.le_refl _) _⟩
  · have t1 : decide (n.size ≤ 40) = false := by simpa using h1
    have t1' : decide ((n.size : Int) ≤ 40) = false := by simp; omega
    go_enter Tryz.func6, Tryz.ntmps6
    go_wp2
    go_ret
    exact ⟨by first | rfl | simp [t1], (Below.refl _ _).alloc (Nat.le_refl _) _⟩

def fewB (n d : ByteArray) : Bool := decide (n.size ≤ 40) && decide (d.size ≤ 40)
/-- What Few returns. -/
def fewL (l : List In) : Bool := l.all (fun x => fewB x.n x.d) && decide (l.length ≤ 60)

/-- Uses as a value. -/
def UsesV (w : World) (v : Value) (us : List UseR) : Prop := ∃ A cap, v = .slice A us.length cap ∧ ∀ (i : Nat) (u : UseR), us[i]? = some u → ∃ b off, A = some ⟨b, off, none⟩ ∧ b < w.heap.size ∧ ∀ (j : Nat) (x : Value), (useV u)[j]? = some x → w.cell? ⟨b, off + i * 6 + j, none⟩ = some x
def WorksV (w : World) (v : Value) (ws : List (Int × Int)) : Prop := ∃ A cap, v = .slice A ws.length cap ∧ ∀ (i : Nat) (u : Int × Int), ws[i]? = some u → ∃ b off, A = some ⟨b, off, none⟩ ∧ b < w.heap.size ∧ ∀ (j : Nat) (x : Value), (workV u)[j]? = some x → w.cell? ⟨b, off + i * 2 + j, none⟩ = some x
theorem flat_get {α : Type} (f : α → List Value) (k : Nat) (hk : ∀ a, (f a).length = k) : ∀ (us : List α) (i j : Nat) (u : α), us[i]? = some u → j < k → (us.flatMap f)[i * k + j]? = (f u)[j]?
  | [], i, j, u, h, _ => by simp at h
  | a :: us, 0, j, u, h, hj => by
    have : a = u := by simpa using h
    subst this
    rw [List.flatMap_cons, Nat.zero_mul, Nat.zero_add, List.getElem?_append_left (by rw [hk]; exact hj)]
  | a :: us, i + 1, j, u, h, hj => by
    rw [List.flatMap_cons, List.getElem?_append_right (by rw [hk, Nat.succ_mul]; omega), hk, show (i + 1) * k + j - k = i * k + j from by rw [Nat.succ_mul]; omega]
    exact flat_get f k hk us i j u (by simpa using h) hj
theorem UsesV.of_owns {w : World} {B : Nat} {v : Value} {us : List UseR} (h : w.ownsRow B 58 6 v us.length (useC us)) : UsesV w v us := by
  rcases h.2 with ⟨rfl, h0⟩ | ⟨g, cap, cur, rfl, h1, h2, h3, h4, h5, h6⟩
  · exact ⟨none, 0, by rw [h0], fun i u hu => by rw [List.length_eq_zero_iff.1 h0] at hu; simp at hu⟩
  · refine ⟨_, cap, rfl, fun i u hu => ⟨g, 0, rfl, (Array.getElem?_eq_some_iff.1 h2).1, fun j x hx => ?_⟩⟩
    have hj : j < 6 := by have := (List.getElem?_eq_some_iff.1 hx).1; simpa [useV] using this
    have hi : i < us.length := (List.getElem?_eq_some_iff.1 hu).1
    have e : (cur.toList.take (us.length * 6))[i * 6 + j]? = some x := by rw [h6]; unfold useC; rw [flat_get useV 6 (fun _ => rfl) us i j u hu hj]; exact hx
    rw [List.getElem?_take, if_pos (by omega)] at e
    rw [Nat.zero_add]
    simp only [World.cell?, h2]
    simpa using e
theorem WorksV.of_owns {w : World} {B : Nat} {v : Value} {us : List (Int × Int)} (h : w.ownsRow B 60 2 v us.length (workC us)) : WorksV w v us := by
  rcases h.2 with ⟨rfl, h0⟩ | ⟨g, cap, cur, rfl, h1, h2, h3, h4, h5, h6⟩
  · exact ⟨none, 0, by rw [h0], fun i u hu => by rw [List.length_eq_zero_iff.1 h0] at hu; simp at hu⟩
  · refine ⟨_, cap, rfl, fun i u hu => ⟨g, 0, rfl, (Array.getElem?_eq_some_iff.1 h2).1, fun j x hx => ?_⟩⟩
    have hj : j < 2 := by have := (List.getElem?_eq_some_iff.1 hx).1; simpa [workV] using this
    have hi : i < us.length := (List.getElem?_eq_some_iff.1 hu).1
    have e : (cur.toList.take (us.length * 2))[i * 2 + j]? = some x := by rw [h6]; unfold workC; rw [flat_get workV 2 (fun _ => rfl) us i j u hu hj]; exact hx
    rw [List.getElem?_take, if_pos (by omega)] at e
    rw [Nat.zero_add]
    simp only [World.cell?, h2]
    simpa using e
theorem UsesV.below {w W : World} {v : Value} {us : List UseR} (h : UsesV w v us) (hb : Below w.heap.size w W) : UsesV W v us := by
  obtain ⟨A, cap, rfl, h⟩ := h
  refine ⟨A, cap, rfl, fun i u hu => ?_⟩
  obtain ⟨b, off, e, hl, hc⟩ := h i u hu
  exact ⟨b, off, e, Nat.lt_of_lt_of_le hl hb.size, fun j x hx => (hb.cell (p := ⟨b, _, none⟩) hl).trans (hc j x hx)⟩
theorem WorksV.below {w W : World} {v : Value} {us : List (Int × Int)} (h : WorksV w v us) (hb : Below w.heap.size w W) : WorksV W v us := by
  obtain ⟨A, cap, rfl, h⟩ := h
  refine ⟨A, cap, rfl, fun i u hu => ?_⟩
  obtain ⟨b, off, e, hl, hc⟩ := h i u hu
  exact ⟨b, off, e, Nat.lt_of_lt_of_le hl hb.size, fun j x hx => (hb.cell (p := ⟨b, _, none⟩) hl).trans (hc j x hx)⟩

theorem neq_use (u : UseR) (W : World) : (binOp .neq 58 (.agg #[.int .i64 u.item, .bool u.amt.neg, .string (bs u.amt.n), .string (bs u.amt.d), .bool u.out, .bool u.back]) (.agg #[.int .i64 u.item, .bool u.amt.neg, .string (bs u.amt.n), .string (bs u.amt.d), .bool u.out, .bool u.back])).run Tryz.prog W = .ok (.bool false) W := by
  simp [go_sem]
theorem neq_work (a b : Int) (W : World) : (binOp .neq 60 (.agg #[.int .i64 a, .int .i64 b]) (.agg #[.int .i64 a, .int .i64 b])).run Tryz.prog W = .ok (.bool false) W := by
  simp [go_sem]
theorem few_step {l : List In} {k : Nat} {x : In} (hx : l[k]? = some x) (h : (l.take k).all (fun x => fewB x.n x.d) = true) (hx' : fewB x.n x.d = true) : (l.take (k + 1)).all (fun x => fewB x.n x.d) = true := by
  rw [List.take_add_one, hx, List.all_append, h]; simp [hx']

set_option maxRecDepth 100000 in
set_option maxHeartbeats 1000000 in
theorem few_any (v : Value) (l : List In) (w : World) (h : CodeV w v l) (hl : l.length ≤ 9223372036854775807) : Calls Tryz.prog 5 #[v] w (Ret w (.bool (fewL l))) := by
  have hnot : ∀ (x : Bool) (w : World), (Op.unary .not (.bool x)).run Tryz.prog w = .ok (.bool (!x)) w := fun _ _ => rfl
  obtain ⟨A, cap, rfl, h⟩ := h
  have H := Lib.hid h
  obtain ⟨n, hn⟩ : ∃ n, l.length = n := ⟨_, rfl⟩
  have HN := Lib.hid hn
  rw [hn] at hl ⊢
  clear h hn
  go_enter Tryz.func5, Tryz.ntmps5
  go_wp2
  go_loopw [3] (fun i wr => ∃ k : Nat, k ≤ n ∧ i = .int .i64 k ∧ Hid ((l.take k).all (fun x => fewB x.n x.d) = true) ∧ Below w.heap.size w wr) (fun i _ => n - (intOf i).toNat)
  case atStart => exact ⟨0, Nat.zero_le _, rfl, by simp [Hid], Below.refl _ _⟩
  case round =>
    obtain ⟨k, hk, rfl, HA, hb⟩ := hrel
    have HB := Lib.hid hb
    clear hb
    by_cases hlt : k < n
    · obtain ⟨x, hx⟩ : ∃ x, l[k]? = some x := ⟨l[k]'(by have := HN.out; omega), List.getElem?_eq_getElem (by have := HN.out; omega)⟩
      rcases H.out with h0 | ⟨b, off, rfl, hc⟩
      · rw [h0] at hx; simp at hx
      obtain ⟨c0, c1, c2, c3, c4, c5⟩ := (hc.below HB.out hc.1).sp hx
      have HX := Lib.hid hx
      have HF := Lib.hid (fun W => fewR_any x.neg x.n x.d W)
      clear hx hc c0 c1 c2
      obtain ⟨fb, hfb⟩ : ∃ fb, fewB x.n x.d = fb := ⟨_, rfl⟩
      have HFB := Lib.hid hfb
      unfold fewB at hfb
      rw [hfb] at HF
      clear hfb
      cases fb
      · have HL : Hid (fewL l = false) := by
          show fewL l = false
          unfold fewL
          have : l.all (fun x => fewB x.n x.d) = false := by
            rw [List.all_eq_false]
            exact ⟨x, List.mem_of_getElem? HX.out, by rw [HFB.out]; simp⟩
          rw [this]; rfl
        go_wp2_with fail
        refine (HF.out _).mono ?_
        rintro e w1 ⟨rfl, hb1⟩
        have HB1 := Lib.hid (HB.out.trans (hb1.mono HB.out.size))
        clear hb1
        go_wp2
        go_ret
        exact ⟨by rw [HL.out]; rfl, HB1.out⟩
      · go_wp2_with fail
        refine (HF.out _).mono ?_
        rintro e w1 ⟨rfl, hb1⟩
        have HB1 := Lib.hid (HB.out.trans (hb1.mono HB.out.size))
        clear hb1
        go_wp2
        go_roundw
        case rel => exact ⟨k + 1, by omega, by go_num, few_step HX.out HA.out HFB.out, HB1.out⟩
        case measure => simp [intOf]; omega
    · obtain rfl : k = n := by omega
      have HL : Hid (fewL l = decide (k ≤ 60)) := by
        show fewL l = _
        unfold fewL
        have := HA.out
        rw [List.take_of_length_le (by have := HN.out; omega)] at this
        rw [this, HN.out]; rfl
      by_cases h60 : k ≤ 60
      · have t1 : decide ((k : Int) ≤ 60) = true := by simp; omega
        have t2 : decide (k ≤ 60) = true := by simpa using h60
        go_wp2
        go_ret
        exact ⟨by rw [HL.out, t2]; rfl, HB.out⟩
      · have t1 : decide ((k : Int) ≤ 60) = false := by simp; omega
        have t2 : decide (k ≤ 60) = false := by simpa using h60
        go_wp2
        go_ret
        exact ⟨by rw [HL.out, t2]; rfl, HB.out⟩

set_option maxRecDepth 100000 in
set_option maxHeartbeats 1000000 in
theorem sameUses_yes (v v' : Value) (us : List UseR) (w : World) (h : UsesV w v us) (h' : UsesV w v' us) (hl : us.length ≤ 1048576) : Calls Tryz.prog 11 #[v, v'] w (Ret w (.bool true)) := by
  obtain ⟨A, cap, rfl, h⟩ := h
  obtain ⟨A', cap', rfl, h'⟩ := h'
  have H := Lib.hid h
  have H' := Lib.hid h'
  obtain ⟨n, hn⟩ : ∃ n, us.length = n := ⟨_, rfl⟩
  have HN := Lib.hid hn
  rw [hn] at hl ⊢
  clear h h' hn
  go_enter Tryz.func11, Tryz.ntmps11
  go_wp2
  go_loopw [5] (fun i wr => ∃ k : Nat, k ≤ n ∧ i = .int .i64 k ∧ ∃ q, wr = w.drewN q) (fun i _ => n - (intOf i).toNat)
  case atStart => exact ⟨0, Nat.zero_le _, rfl, 0, rfl⟩
  case round =>
    obtain ⟨k, hk, rfl, q, rfl⟩ := hrel
    by_cases hlt : k < n
    · obtain ⟨u, hu⟩ : ∃ u, us[k]? = some u := ⟨us[k]'(by have := HN.out; omega), List.getElem?_eq_getElem (by have := HN.out; omega)⟩
      obtain ⟨b, off, rfl, _, hc⟩ := H.out k u hu
      obtain ⟨b', off', rfl, _, hc'⟩ := H'.out k u hu
      have c0 := hc 0 _ rfl
      have c1 := hc 1 _ rfl
      have c2 := hc 2 _ rfl
      have c3 := hc 3 _ rfl
      have c4 := hc 4 _ rfl
      have c5 := hc 5 _ rfl
      have d0 := hc' 0 _ rfl
      have d1 := hc' 1 _ rfl
      have d2 := hc' 2 _ rfl
      have d3 := hc' 3 _ rfl
      have d4 := hc' 4 _ rfl
      have d5 := hc' 5 _ rfl
      simp only [Nat.add_zero] at c0 d0
      have hne := fun W => neq_use u W
      have hi0 : (0 : Int) ≤ (k : Int) := by omega
      have hi1 : (k : Int) < (n : Int) := by omega
      clear hc hc' hu
      go_wp2
      go_quiet (fail)
      go_wp2
      go_roundw
      case rel => exact ⟨k + 1, by omega, by go_num, _, rfl⟩
      case measure => simp [intOf]; omega
    · obtain rfl : k = n := by omega
      go_wp2
      go_ret
      exact ⟨rfl, ⟨rfl, rfl, rfl, Nat.le_refl _, fun _ _ => rfl⟩⟩

set_option maxRecDepth 100000 in
set_option maxHeartbeats 1000000 in
theorem sameWork_yes (v v' : Value) (us : List (Int × Int)) (w : World) (h : WorksV w v us) (h' : WorksV w v' us) (hl : us.length ≤ 1048576) : Calls Tryz.prog 12 #[v, v'] w (Ret w (.bool true)) := by
  obtain ⟨A, cap, rfl, h⟩ := h
  obtain ⟨A', cap', rfl, h'⟩ := h'
  have H := Lib.hid h
  have H' := Lib.hid h'
  obtain ⟨n, hn⟩ : ∃ n, us.length = n := ⟨_, rfl⟩
  have HN := Lib.hid hn
  rw [hn] at hl ⊢
  clear h h' hn
  go_enter Tryz.func12, Tryz.ntmps12
  go_wp2
  go_loopw [5] (fun i wr => ∃ k : Nat, k ≤ n ∧ i = .int .i64 k ∧ ∃ q, wr = w.drewN q) (fun i _ => n - (intOf i).toNat)
  case atStart => exact ⟨0, Nat.zero_le _, rfl, 0, rfl⟩
  case round =>
    obtain ⟨k, hk, rfl, q, rfl⟩ := hrel
    by_cases hlt : k < n
    · obtain ⟨u, hu⟩ : ∃ u, us[k]? = some u := ⟨us[k]'(by have := HN.out; omega), List.getElem?_eq_getElem (by have := HN.out; omega)⟩
      obtain ⟨b, off, rfl, _, hc⟩ := H.out k u hu
      obtain ⟨b', off', rfl, _, hc'⟩ := H'.out k u hu
      have c0 := hc 0 _ rfl
      have c1 := hc 1 _ rfl
      have d0 := hc' 0 _ rfl
      have d1 := hc' 1 _ rfl
      simp only [Nat.add_zero] at c0 d0
      have hne := fun W => neq_work u.1 u.2 W
      have hi0 : (0 : Int) ≤ (k : Int) := by omega
      have hi1 : (k : Int) < (n : Int) := by omega
      clear hc hc' hu
      go_wp2
      go_quiet (fail)
      go_wp2
      go_roundw
      case rel => exact ⟨k + 1, by omega, by go_num, _, rfl⟩
      case measure => simp [intOf]; omega
    · obtain rfl : k = n := by omega
      go_wp2
      go_ret
      exact ⟨rfl, ⟨rfl, rfl, rfl, Nat.le_refl _, fun _ _ => rfl⟩⟩
end Go.Proofs.YtoolanjbmbcaiaaGreatDoor
namespace Go.Proofs.YtoolanjbmbcaiaaGreatDoor
open Go.RowKit Bf

/-- So much more fuel. -/
def Mst.add (s : Mst) (k : Nat) : Mst := { s with fuel := s.fuel + k }
def Out.add (o : Out) (k : Nat) : Out := match o with | .go s => .go (s.add k) | .stop e s => .stop e (s.add k)

theorem stepI_add (ch : List Int) (day : Int) (amt : Rt) (x : In) (s : Mst) (k : Nat) : stepI ch day amt x (s.add k) = (stepI ch day amt x s).add k := by
  unfold stepI
  by_cases h1 : x.op = 1
  · simp [h1, Out.add, Mst.add]
  by_cases h2 : x.op = 2
  · simp [h2, Out.add, Mst.add]
  by_cases h3 : x.op = 3
  · simp only [h3, if_true]
    cases divR amt x.rt <;> simp [Out.add, Mst.add]
  by_cases h4 : x.op = 4
  · simp only [h4, if_true, Mst.add]
    cases mulR x.rt s.bat <;> simp [Out.add, Mst.add]
  by_cases h5 : x.op = 5
  · simp only [h5, if_true, Mst.add]
    cases mulR x.rt s.bat <;> simp [Out.add, Mst.add]
  by_cases h6 : x.op = 6
  · simp only [h6, if_true, Mst.add]
    cases ceilR s.bat with
    | none => simp [Out.add, Mst.add]
    | some k => by_cases hk : 1099511627776 < k <;> simp [hk, Out.add, Mst.add]
  by_cases h7 : x.op = 7
  · simp [h7, Out.add, Mst.add]
  · simp [h1, h2, h3, h4, h5, h6, h7, Out.add, Mst.add]

/-- The state after a step has the fuel of the state before it. -/
theorem stepI_fuel (ch : List Int) (day : Int) (amt : Rt) (x : In) (s : Mst) : (∃ t, stepI ch day amt x s = .go t ∧ t.fuel = s.fuel) ∨ (∃ e t, stepI ch day amt x s = .stop e t ∧ t.fuel = s.fuel ∧ (e = 0 ∨ e = 2 ∨ e = 160)) := by
  unfold stepI
  by_cases h1 : x.op = 1
  · rw [if_pos h1]; exact .inl ⟨_, rfl, rfl⟩
  rw [if_neg h1]
  by_cases h2 : x.op = 2
  · rw [if_pos h2]; exact .inl ⟨_, rfl, rfl⟩
  rw [if_neg h2]
  by_cases h3 : x.op = 3
  · rw [if_pos h3]
    cases divR amt x.rt with
    | none => exact .inr ⟨_, _, rfl, rfl, by simp⟩
    | some q => exact .inl ⟨_, rfl, rfl⟩
  rw [if_neg h3]
  by_cases h4 : x.op = 4
  · rw [if_pos h4]
    cases mulR x.rt s.bat with
    | none => exact .inr ⟨_, _, rfl, rfl, by simp⟩
    | some q => exact .inl ⟨_, rfl, rfl⟩
  rw [if_neg h4]
  by_cases h5 : x.op = 5
  · rw [if_pos h5]
    cases mulR x.rt s.bat with
    | none => exact .inr ⟨_, _, rfl, rfl, by simp⟩
    | some q => exact .inl ⟨_, rfl, rfl⟩
  rw [if_neg h5]
  by_cases h6 : x.op = 6
  · rw [if_pos h6]
    cases ceilR s.bat with
    | none => exact .inr ⟨_, _, rfl, rfl, by simp⟩
    | some k =>
      by_cases hk : 1099511627776 < k
      · simp only [hk, if_true]; exact .inr ⟨_, _, rfl, rfl, by simp⟩
      · simp only [hk, if_false]; exact .inl ⟨_, rfl, rfl⟩
  rw [if_neg h6]
  by_cases h7 : x.op = 7
  · rw [if_pos h7]; exact .inr ⟨_, _, rfl, rfl, by simp⟩
  · rw [if_neg h7]; exact .inr ⟨_, _, rfl, rfl, by simp⟩

theorem runI_succ (code : List In) (ch : List Int) (day : Int) (amt : Rt) (g : Nat) (s : Mst) : runI code ch day amt (g + 1) s = if s.fuel = 0 then (170, s) else match code[s.next]? with
    | none => (170, s)
    | some x => match stepI ch day amt x { s with fuel := s.fuel - 1, next := s.next + 1 } with
      | .go s' => runI code ch day amt g s'
      | .stop e s' => (e, s') := rfl

/-- More fuel: the same, and more is left by as much. -/
theorem runI_more (code : List In) (ch : List Int) (day : Int) (amt : Rt) (k : Nat) : ∀ (g : Nat) (s : Mst), (runI code ch day amt g s).1 ≠ 170 → runI code ch day amt g (s.add k) = ((runI code ch day amt g s).1, (runI code ch day amt g s).2.add k)
  | 0, s, h => absurd rfl h
  | g + 1, s, h => by
    rw [runI_succ] at h ⊢
    by_cases hf : s.fuel = 0
    · rw [if_pos hf] at h; exact absurd rfl h
    rw [if_neg hf] at h
    rw [if_neg (by simp [Mst.add, hf]), runI_succ, if_neg hf]
    cases hc : code[s.next]? with
    | none => rw [hc] at h; exact absurd rfl h
    | some x =>
      rw [hc] at h
      have e1 : code[(s.add k).next]? = some x := hc
      rw [e1]
      have e2 : ({ s.add k with fuel := (s.add k).fuel - 1, next := (s.add k).next + 1 } : Mst) = Mst.add { s with fuel := s.fuel - 1, next := s.next + 1 } k := by
        simp [Mst.add]; omega
      simp only [e2, stepI_add] at h ⊢
      cases hs : stepI ch day amt x { s with fuel := s.fuel - 1, next := s.next + 1 } with
      | go t =>
        simp only [hs, Out.add] at h ⊢
        exact runI_more code ch day amt k g t h
      | stop e t => simp only [Out.add]

/-- A run that ends uses fuel. -/
theorem runI_uses (code : List In) (ch : List Int) (day : Int) (amt : Rt) : ∀ (g : Nat) (s : Mst), (runI code ch day amt g s).1 ≠ 170 → (runI code ch day amt g s).2.fuel < s.fuel
  | 0, s, h => absurd rfl h
  | g + 1, s, h => by
    rw [runI_succ] at h ⊢
    by_cases hf : s.fuel = 0
    · rw [if_pos hf] at h; exact absurd rfl h
    rw [if_neg hf] at h ⊢
    cases hc : code[s.next]? with
    | none => rw [hc] at h; exact absurd rfl h
    | some x =>
      rw [hc] at h
      rcases stepI_fuel ch day amt x { s with fuel := s.fuel - 1, next := s.next + 1 } with ⟨t, hs, ht⟩ | ⟨e, t, hs, ht, _⟩
      · simp only [hs] at h ⊢
        have := runI_uses code ch day amt g t h
        simp only at ht
        omega
      · simp only [hs]
        simp only at ht
        omega

/-- Less fuel, but enough: the same, and less is left by as much. -/
theorem runI_less (code : List In) (ch : List Int) (day : Int) (amt : Rt) (k : Nat) : ∀ (g : Nat) (s : Mst), (runI code ch day amt g (s.add k)).1 ≠ 170 → k ≤ (runI code ch day amt g (s.add k)).2.fuel → (runI code ch day amt g s).1 ≠ 170
  | 0, s, h, _ => absurd rfl h
  | g + 1, s, h, hk => by
    by_cases hf : s.fuel = 0
    · have := runI_uses code ch day amt (g + 1) (s.add k) h
      simp only [Mst.add, hf] at this hk
      omega
    rw [runI_succ, if_neg (by simp [Mst.add, hf])] at h hk
    rw [runI_succ, if_neg hf]
    cases hc : code[s.next]? with
    | none => rw [show code[(s.add k).next]? = none from hc] at h; exact absurd rfl h
    | some x =>
      rw [show code[(s.add k).next]? = some x from hc] at h hk
      have e2 : ({ s.add k with fuel := (s.add k).fuel - 1, next := (s.add k).next + 1 } : Mst) = Mst.add { s with fuel := s.fuel - 1, next := s.next + 1 } k := by
        simp [Mst.add]; omega
      simp only [e2, stepI_add] at h hk ⊢
      cases hs : stepI ch day amt x { s with fuel := s.fuel - 1, next := s.next + 1 } with
      | go t =>
        simp only [hs, Out.add] at h hk ⊢
        exact runI_less code ch day amt k g t h hk
      | stop e t =>
        simp only [hs, Out.add] at h ⊢
        exact h

/-- As much fuel as there are instructions is enough. -/
theorem runI_enough (code : List In) (ch : List Int) (day : Int) (amt : Rt) (hp : progOk code) : ∀ (g : Nat) (s : Mst), s.next < code.length → code.length - s.next ≤ g → code.length - s.next ≤ s.fuel → (runI code ch day amt g s).1 ≠ 170
  | 0, s, hn, hg, _ => by omega
  | g + 1, s, hn, hg, hf => by
    rw [runI_succ, if_neg (by omega)]
    obtain ⟨x, hx⟩ : ∃ x, code[s.next]? = some x := ⟨_, List.getElem?_eq_getElem hn⟩
    rw [hx]
    have hv := hp.2.2.1 _ _ hx
    have hl : s.next = code.length - 1 → x.op = 7 ∨ x.op = 8 := fun e => hp.2.2.2 x (e ▸ hx)
    have ih := runI_enough code ch day amt hp g
    unfold vldB at hv
    simp only
    unfold stepI
    by_cases h1 : x.op = 1
    · simp only [h1, if_true] at hv ⊢
      simp at hv
      apply ih
      · split <;> simp <;> omega
      · split <;> simp <;> omega
      · split <;> simp <;> omega
    by_cases h2 : x.op = 2
    · simp only [h2, if_true] at hv ⊢
      simp at hv
      apply ih <;> simp <;> omega
    have hlast : x.op ≠ 7 → x.op ≠ 8 → s.next + 1 < code.length := fun a b => by
      rcases Nat.lt_or_ge (s.next + 1) code.length with h | h
      · exact h
      · rcases hl (by omega) with h | h <;> contradiction
    by_cases h3 : x.op = 3
    · have := hlast (by omega) (by omega)
      simp only [h3, if_true]
      cases divR amt x.rt with
      | none => simp
      | some q => apply ih <;> simp <;> omega
    by_cases h4 : x.op = 4
    · have := hlast (by omega) (by omega)
      simp only [h4, if_true]
      cases mulR x.rt s.bat with
      | none => simp
      | some q => apply ih <;> simp <;> omega
    by_cases h5 : x.op = 5
    · have := hlast (by omega) (by omega)
      simp only [h5, if_true]
      cases mulR x.rt s.bat with
      | none => simp
      | some q => apply ih <;> simp <;> omega
    by_cases h6 : x.op = 6
    · have := hlast (by omega) (by omega)
      simp only [h6, if_true]
      cases ceilR s.bat with
      | none => simp
      | some q =>
        by_cases hk : 1099511627776 < q
        · simp [hk]
        · simp only [hk, if_false]
          apply ih <;> simp <;> omega
    by_cases h7 : x.op = 7
    · simp [h7]
    · simp [h1, h2, h3, h4, h5, h6, h7]
end Go.Proofs.YtoolanjbmbcaiaaGreatDoor
namespace Go.Proofs.YtoolanjbmbcaiaaGreatDoor
open Go.RowKit Bf

theorem begin0_add (f k : Nat) : (begin0 f).add k = begin0 (f + k) := rfl

/-- The law of the fuel. -/
theorem fuel_plain (l : List In) (c : List Int) (neg : Bool) (n d : ByteArray) (m : Nat) :
    (runE l c neg n d (l.length : Int)).1 ≠ 170 ∧ (runE l c neg n d ((l.length : Int) + (m : Int))).1 = (runE l c neg n d (l.length : Int)).1 ∧
    ((runE l c neg n d (l.length : Int)).1 = 0 → (runE l c neg n d ((l.length : Int) + (m : Int))).2 = (runE l c neg n d (l.length : Int)).2.add m ∧
      (runE l c neg n d (l.length : Int)).2.fuel < l.length ∧
      (runE l c neg n d ((l.length : Int) - ((runE l c neg n d (l.length : Int)).2.fuel : Int))).1 = 0 ∧
      (runE l c neg n d ((l.length : Int) - ((runE l c neg n d (l.length : Int)).2.fuel : Int))).2.fuel = 0 ∧
      (runE l c neg n d ((l.length : Int) - ((runE l c neg n d (l.length : Int)).2.fuel : Int) - 1)).1 = 170) := by
  by_cases h1 : progOk l
  rotate_left
  · simp [runE_code h1]
  by_cases h2 : RatS neg n d
  rotate_left
  · simp [runE_rat h1 c h2]
  by_cases h3 : neg = true ∨ c = []
  · have h4 : ∀ f : Int, runE l c neg n d f = (1, begin0 0) := fun f => runE_arg h1 h2 (by rcases h3 with h | h; exact .inl h; exact .inr (.inl h))
    simp [h4]
  have h4 : ∀ f : Int, 0 ≤ f → runE l c neg n d f = runI l c.dropLast (c.getLast?.getD 0) ⟨neg, bv n, bv d⟩ l.length (begin0 f.toNat) := fun f hf =>
    runE_run h1 h2 (by rintro (h | h | h); exact h3 (.inl h); exact h3 (.inr h); omega)
  have hl := h1.1
  rw [h4 _ (by omega), h4 _ (by omega), show ((l.length : Int) + (m : Int)).toNat = l.length + m by omega, show ((l.length : Int)).toNat = l.length by omega]
  have e1 := runI_enough l c.dropLast (c.getLast?.getD 0) ⟨neg, bv n, bv d⟩ h1 l.length (begin0 l.length) (by simpa [begin0] using hl) (by simp [begin0]) (by simp [begin0])
  have e2 := runI_more l c.dropLast (c.getLast?.getD 0) ⟨neg, bv n, bv d⟩ m l.length (begin0 l.length) e1
  rw [begin0_add] at e2
  have e3 := runI_uses l c.dropLast (c.getLast?.getD 0) ⟨neg, bv n, bv d⟩ l.length (begin0 l.length) e1
  have e4 : (begin0 l.length).fuel = l.length := rfl
  rw [e4] at e3
  refine ⟨e1, by rw [e2], fun h0 => ⟨by rw [e2], e3, ?_⟩⟩
  obtain ⟨R, hR⟩ : ∃ R, runI l c.dropLast (c.getLast?.getD 0) ⟨neg, bv n, bv d⟩ l.length (begin0 l.length) = R := ⟨_, rfl⟩
  rw [hR] at e1 e3 h0 ⊢
  clear e2
  have f1 : begin0 l.length = (begin0 (l.length - R.2.fuel)).add R.2.fuel := by rw [begin0_add]; congr 1; omega
  have e5 := runI_less l c.dropLast (c.getLast?.getD 0) ⟨neg, bv n, bv d⟩ R.2.fuel l.length (begin0 (l.length - R.2.fuel)) (by rw [← f1, hR]; exact e1) (by rw [← f1, hR]; exact Nat.le_refl _)
  have e6 := runI_more l c.dropLast (c.getLast?.getD 0) ⟨neg, bv n, bv d⟩ R.2.fuel l.length (begin0 (l.length - R.2.fuel)) e5
  rw [← f1, hR] at e6
  rw [h4 _ (by omega), h4 _ (by omega), show ((l.length : Int) - (R.2.fuel : Int)).toNat = l.length - R.2.fuel by omega, show ((l.length : Int) - (R.2.fuel : Int) - 1).toNat = l.length - R.2.fuel - 1 by omega]
  have e7 : (runI l c.dropLast (c.getLast?.getD 0) ⟨neg, bv n, bv d⟩ l.length (begin0 (l.length - R.2.fuel))).2.fuel = 0 := by
    have := congrArg (fun r : Int × Mst => r.2.fuel) e6
    simp [Mst.add] at this
    exact this
  refine ⟨?_, e7, ?_⟩
  · have := congrArg Prod.fst e6
    simp only at this
    rw [← this]; exact h0
  · refine Classical.byContradiction fun hne => ?_
    have e8 := runI_more l c.dropLast (c.getLast?.getD 0) ⟨neg, bv n, bv d⟩ 1 l.length (begin0 (l.length - R.2.fuel - 1)) hne
    rw [begin0_add, show l.length - R.2.fuel - 1 + 1 = l.length - R.2.fuel by omega] at e8
    rw [e8] at e7
    simp [Mst.add] at e7

theorem stepI_same {ch ch' : List Int} {day day' : Int} {x : In} (amt : Rt) (s : Mst) (h : x.op = 1 → holdsI ch day x = holdsI ch' day' x) : stepI ch day amt x s = stepI ch' day' amt x s := by
  unfold stepI
  by_cases h1 : x.op = 1
  · rw [if_pos h1, if_pos h1, h h1]
  · rw [if_neg h1, if_neg h1]

theorem runI_same {code : List In} {ch ch' : List Int} {day day' : Int} (amt : Rt) (h : ∀ x ∈ code, x.op = 1 → holdsI ch day x = holdsI ch' day' x) : ∀ (g : Nat) (s : Mst), runI code ch day amt g s = runI code ch' day' amt g s
  | 0, s => rfl
  | g + 1, s => by
    rw [runI_succ, runI_succ]
    by_cases hf : s.fuel = 0
    · rw [if_pos hf, if_pos hf]
    rw [if_neg hf, if_neg hf]
    cases hc : code[s.next]? with
    | none => rfl
    | some x =>
      simp only [stepI_same amt { s with fuel := s.fuel - 1, next := s.next + 1 } (h x (List.mem_of_getElem? hc))]
      cases stepI ch' day' amt x { s with fuel := s.fuel - 1, next := s.next + 1 } with
      | go t => exact runI_same amt h g t
      | stop e t => rfl

/-- The law of the days. -/
theorem day_plain (l : List In) (c : List Int) (day other further : Int) (neg : Bool) (n d : ByteArray) (fuel : Int)
    (h : ∀ x ∈ l, x.op = 1 → ¬ ((x.A < 0 ∧ decide (x.B ≤ day) ≠ decide (x.B ≤ other)) ∨ (c.length : Int) ≤ x.A)) :
    runE l (c ++ [other]) neg n d fuel = runE l (c ++ [day]) neg n d fuel ∧ runE l (c ++ [further] ++ [day]) neg n d fuel = runE l (c ++ [day]) neg n d fuel := by
  by_cases h1 : progOk l
  rotate_left
  · simp [runE_code h1]
  by_cases h2 : RatS neg n d
  rotate_left
  · simp [runE_rat h1 _ h2]
  by_cases h3 : neg = true ∨ fuel < 0
  · have h4 : ∀ x : List Int, runE l x neg n d fuel = (1, begin0 0) := fun x => runE_arg h1 h2 (by rcases h3 with h | h; exact .inl h; exact .inr (.inr h))
    simp [h4]
  have h4 : ∀ (x : List Int) (y : Int), runE l (x ++ [y]) neg n d fuel = runI l x y ⟨neg, bv n, bv d⟩ l.length (begin0 fuel.toNat) := fun x y => by
    rw [runE_run h1 h2 (by rintro (h | h | h); exact h3 (.inl h); simp at h; exact h3 (.inr h))]
    simp
  rw [h4, h4, h4]
  constructor
  · refine runI_same _ (fun x hx ho => ?_) _ _
    have := h x hx ho
    unfold holdsI
    by_cases ha : x.A = -1
    · rw [if_pos ha, if_pos ha]
      have h5 : ¬ (decide (x.B ≤ day) ≠ decide (x.B ≤ other)) := fun h6 => this (.inl ⟨by omega, h6⟩)
      exact (Decidable.not_not.1 h5).symm
    rw [if_neg ha, if_neg ha]
    by_cases hb : x.A = -2
    · rw [if_pos hb, if_pos hb]
      have h5 : ¬ (decide (x.B ≤ day) ≠ decide (x.B ≤ other)) := fun h6 => this (.inl ⟨by omega, h6⟩)
      have h6 := Decidable.not_not.1 h5
      by_cases h7 : x.B ≤ day
      · have h8 : x.B ≤ other := by simpa [h7] using h6
        simp; omega
      · have h8 : ¬ x.B ≤ other := by simpa [h7] using h6
        simp; omega
    rw [if_neg hb, if_neg hb]
  · refine runI_same _ (fun x hx ho => ?_) _ _
    have := h x hx ho
    unfold holdsI
    by_cases ha : x.A = -1
    · rw [if_pos ha, if_pos ha]
    rw [if_neg ha, if_neg ha]
    by_cases hb : x.A = -2
    · rw [if_pos hb, if_pos hb]
    rw [if_neg hb, if_neg hb]
    obtain ⟨i, hi⟩ := List.getElem?_of_mem hx
    have hv := h1.2.2.1 _ _ hi
    unfold vldB at hv
    rw [if_pos ho] at hv
    simp [btw] at hv
    have hlt : x.A.toNat < c.length := by
      have : ¬ (c.length : Int) ≤ x.A := fun h6 => this (.inr h6)
      omega
    rw [List.getElem?_append_left hlt]
end Go.Proofs.YtoolanjbmbcaiaaGreatDoor
