/- Contracts of functions that the law reaches, and plain lemmas, texts Nu Nw Rp Ra Rb Rc Rd Re Rf Rg: no condition beyond those that each theorem names. -/
import Derived.Test.YtoolanjbmbcaiaaGreatDoorGa
import Derived.Recover
import Derived.Defers
import Derived.WalkLawsBesides
import Derived.MapKept
namespace Go.Proofs.YtoolanjbmbcaiaaGreatDoor
open Go.RowKit Bf
attribute [local go_sem ↓] Go.wp_at_zero Go.wp_at_succ
attribute [local go_sem] Oper.semAt_some

set_option maxRecDepth 100000 in
set_option maxHeartbeats 2000000 in
theorem divide_many (b b' n m c c' V U : Nat) (w : World) (hV : Trim n V) (hU : Trim m U) (hn : n ≤ 4096) (hm : m ≤ 4096) (hm2 : 2 ≤ m) (hb : b < w.heap.size) (hb' : b' < w.heap.size) (h : Wds w b n V) (h' : Wds w b' m U) (hge : U ≤ V) :
    Calls Tryz.prog 99 #[.slice (some ⟨b, 0, none⟩) n c, .slice (some ⟨b', 0, none⟩) m c'] w (DividePost w (V / U) (V % U)) := by
  have hUp : 0 < U := Nat.pos_of_ne_zero fun e => by have := (trim_zero_iff hU).2 e; omega
  obtain ⟨many, hmany, hmany0, hmanyn, hsmall, hbits, hbits2⟩ := many_facts hV hU hn hm2 hge
  have HC := Lib.hid (fun W (hW : Below w.heap.size w W) => compare_any b b' n m c c' V U W hV hU (by omega) (by omega) (h.below hW hb) (h'.below hW hb'))
  have hcmp : 0 ≤ cmpN V U := by unfold cmpN; split <;> (try split) <;> omega
  have HA := Lib.hid (fun W (hW : Below w.heap.size w W) => h.below hW hb)
  have HU' := Lib.hid (fun W (hW : Below w.heap.size w W) => h'.below hW hb')
  have HV := Lib.hid hV
  have HU := Lib.hid hU
  have HS1 := Lib.hid (fun W (hW : Below w.heap.size w W) => size_any b n c V W hV (by omega) (h.below hW hb))
  have HS2 := Lib.hid (fun W (hW : Below w.heap.size w W) => size_any b' m c' U W hU (by omega) (h'.below hW hb'))
  have hmk := fun W : World => make_u64 n (by omega) W
  have hmk2 : ∀ W : World, _ := fun W : World => make_u64 (m + 1) (by omega) W
  clear hV hU h h'
  generalize cmpN V U = cm at *
  have tcm : decide (cm < 0) = false := by simp; omega
  have tm : ((m : Int) == 1) = false := by simp; omega
  refine (callsIn_wide (n := 9)).1 ?_
  refine callsIn_of_wp_marks Tryz.func99 rfl trivial ?_ rfl
  refine wpIn_wide.2 ?_
  simp only [Tryz.ntmps99, List.size_toArray, List.length_cons, List.length_nil, Nat.reduceAdd, Nat.reduceSub, Array.replicate_succ, Array.replicate_zero, List.push_toArray, List.append_toArray, List.nil_append, List.cons_append]
  go_wp2_with fail
  have HB0 := Lib.hid ((((Below.refl w.heap.size w).alloc (Nat.le_refl _) (.cells #[.slice (some ⟨b', 0, none⟩) m c'] 99)).alloc (by simp) (.cells #[.slice none 0 0] 99)).alloc (by simp; omega) (.cells #[.slice none 0 0] 99))
  refine (HC.out _ HB0.out).mono ?_
  rintro e w1 ⟨rfl, q, hq⟩
  have HB1 : Hid (Below w.heap.size w w1) := by rw [hq]; exact ⟨HB0.out.os, HB0.out.tape, HB0.out.output, HB0.out.size, HB0.out.block⟩
  have c0 : w1.cell? ⟨w.heap.size, 0, none⟩ = some (.slice (some ⟨b', 0, none⟩) m c') := by rw [hq]; simp [go_sem]
  have c1 : w1.cell? ⟨w.heap.size + 1, 0, none⟩ = some (.slice none 0 0) := by rw [hq]; simp [go_sem]
  have c2 : w1.cell? ⟨w.heap.size + 1 + 1, 0, none⟩ = some (.slice none 0 0) := by rw [hq]; simp [go_sem]
  have f1 : w1.frozen? ⟨w.heap.size + 1, 0, none⟩ = false := by rw [hq]; simp [go_sem]
  have f2 : w1.frozen? ⟨w.heap.size + 1 + 1, 0, none⟩ = false := by rw [hq]; simp [go_sem]
  have hs : w1.heap.size = w.heap.size + 3 := by rw [hq]; simp [go_sem]
  clear hq HB0 HC
  have hmk1 := hmk w1
  rw [hs] at hmk1
  clear hmk
  have HS := Lib.hid hs
  have d0 : ∀ o, (w1.alloc o).cell? ⟨w.heap.size, 0, none⟩ = some (.slice (some ⟨b', 0, none⟩) m c') := fun o => by rw [World.cell?_alloc_lt _ _ _ (by simp; omega)]; exact c0
  have d1 : ∀ o, (w1.alloc o).cell? ⟨w.heap.size + 1, 0, none⟩ = some (.slice none 0 0) := fun o => by rw [World.cell?_alloc_lt _ _ _ (by simp; omega)]; exact c1
  have g1 : ∀ o, (w1.alloc o).frozen? ⟨w.heap.size + 1, 0, none⟩ = false := fun o => by rw [World.frozen?_of_block (w := w1) (Below.heap_alloc w1 o _ (by simp; omega))]; exact f1
  clear hs
  go_wp2
  obtain ⟨wA, hwA⟩ : ∃ wA, (w1.alloc (.cells (madeCells #[.int .u64 0] n) 131)).setCell ⟨w.heap.size + 1, 0, none⟩ (.slice (some ⟨w.heap.size + 3, 0, none⟩) n n) = wA := ⟨_, rfl⟩
  rw [hwA]
  have hne : ∀ x, x ≠ w.heap.size + 1 → wA.cell? ⟨x, 0, none⟩ = (w1.alloc (.cells (madeCells #[.int .u64 0] n) 131)).cell? ⟨x, 0, none⟩ := fun x hx => by rw [← hwA]; exact World.cell?_of_block (w := w1.alloc _) (Below.heap_setCell _ _ _ x hx)
  have a0 : wA.cell? ⟨w.heap.size, 0, none⟩ = some (.slice (some ⟨b', 0, none⟩) m c') := by rw [hne _ (by omega)]; exact d0 _
  have a1 : wA.cell? ⟨w.heap.size + 1, 0, none⟩ = some (.slice (some ⟨w.heap.size + 3, 0, none⟩) n n) := by rw [← hwA]; exact World.cell?_setCell_same' _ _ _ (by rw [d1]; rfl)
  have a2 : wA.cell? ⟨w.heap.size + 1 + 1, 0, none⟩ = some (.slice none 0 0) := by rw [hne _ (by omega), World.cell?_alloc_lt _ _ _ (by have := HS.out; simp; omega)]; exact c2
  have e1 : wA.frozen? ⟨w.heap.size + 1, 0, none⟩ = false := by rw [← hwA, World.frozen?_setCell]; exact g1 _
  have e2 : wA.frozen? ⟨w.heap.size + 1 + 1, 0, none⟩ = false := by rw [← hwA, World.frozen?_setCell, World.frozen?_of_block (w := w1) (Below.heap_alloc w1 _ _ (by have := HS.out; simp; omega))]; exact f2
  have RQ : Hid (Row wA (w.heap.size + 3) n (word 0)) := by
    have hr : Row (w1.alloc (.cells (madeCells #[.int .u64 0] n) 131)) (w.heap.size + 3) n (fun _ => 0) := by
      rw [← HS.out]; exact Row.of_rowIs (World.rowIs_made w1 _ _ _)
    rw [← hwA]
    exact (hr.of_block (Below.heap_setCell _ _ _ _ (by simp))).congr fun i hi => by simp [word]
  have BA : Hid (Below w.heap.size w wA) := by rw [← hwA]; exact (HB1.out.alloc HB1.out.size _).setCell (p := ⟨w.heap.size + 1, 0, none⟩) (by simp) _
  have SA : Hid (wA.heap.size = w.heap.size + 4) := by rw [← hwA]; have := HS.out; show _ = _; simp [go_sem]; omega
  clear hwA hne d0 d1 g1 c0 c1 c2 f1 f2 hmk1 HB1 HS
  have h11 : IntKind.i64.wrap (IntKind.i64.wrap ((nbits V : Int) - (nbits U : Int)) + 1) = (many : Int) := by
    rw [← hmany, IntKind.wrap_i64, IntKind.wrap_i64]; omega
  have HT1 := Lib.hid (HS1.out wA.drew BA.out.drew)
  have HT2 := Lib.hid (HS2.out wA.drew BA.out.drew)
  clear HS1 HS2
  go_region_held3 (fun w' => w'.cell? ⟨w.heap.size, 0, none⟩ = some (.slice (some ⟨b', 0, none⟩) m c')) (first | exact a0 | go_keep)
    (first | (go_at_call 142; with_reducible refine HT1.out.mono ?_; rintro e w2 ⟨rfl, rfl⟩) | (go_at_call 142; with_reducible refine HT2.out.mono ?_; rintro e w2 ⟨rfl, rfl⟩))
  have hmk3 := hmk2 wA.drew
  rw [show ((m + 1 : Nat) : Int) = (m : Int) + 1 from by omega, show wA.drew.heap.size = w.heap.size + 4 from SA.out] at hmk3
  clear hmk2 h11 HT1 HT2
  have hsA : wA.heap.size = w.heap.size + 4 := SA.out
  have d2 : ∀ o, (wA.alloc o).cell? ⟨w.heap.size + 1 + 1, 0, none⟩ = some (.slice none 0 0) := fun o => by rw [World.cell?_alloc_lt _ _ _ (by simp; omega)]; exact a2
  have g2 : ∀ o, (wA.alloc o).frozen? ⟨w.heap.size + 1 + 1, 0, none⟩ = false := fun o => by rw [World.frozen?_of_block (w := wA) (Below.heap_alloc wA o _ (by simp; omega))]; exact e2
  clear hsA
  go_wp2
  obtain ⟨wB, hwB⟩ : ∃ wB, (wA.alloc (.cells (madeCells #[.int .u64 0] (m + 1)) 131)).setCell ⟨w.heap.size + 1 + 1, 0, none⟩ (.slice (some ⟨w.heap.size + 4, 0, none⟩) (m + 1) (m + 1)) = wB := ⟨_, rfl⟩
  rw [hwB]
  have hsA : wA.heap.size = w.heap.size + 4 := SA.out
  have hne : ∀ x, x ≠ w.heap.size + 1 + 1 → wB.heap[x]? = (wA.alloc (.cells (madeCells #[.int .u64 0] (m + 1)) 131)).heap[x]? := fun x hx => by rw [← hwB]; exact Below.heap_setCell _ _ _ x hx
  have hne' : ∀ x, x ≠ w.heap.size + 1 + 1 → x < w.heap.size + 4 → wB.heap[x]? = wA.heap[x]? := fun x hx hl => (hne x hx).trans (Below.heap_alloc _ _ _ (by omega))
  have b0 : wB.cell? ⟨w.heap.size, 0, none⟩ = some (.slice (some ⟨b', 0, none⟩) m c') := (World.cell?_of_block (hne' _ (by simp; omega) (by simp))).trans a0
  have b1 : wB.cell? ⟨w.heap.size + 1, 0, none⟩ = some (.slice (some ⟨w.heap.size + 3, 0, none⟩) n n) := (World.cell?_of_block (hne' _ (by simp) (by simp))).trans a1
  have b2 : wB.cell? ⟨w.heap.size + 1 + 1, 0, none⟩ = some (.slice (some ⟨w.heap.size + 4, 0, none⟩) (m + 1) (m + 1)) := by rw [← hwB]; exact World.cell?_setCell_same' _ _ _ (by rw [d2]; rfl)
  have i1 : wB.frozen? ⟨w.heap.size + 1, 0, none⟩ = false := (World.frozen?_of_block (hne' _ (by simp) (by simp))).trans e1
  have i2 : wB.frozen? ⟨w.heap.size + 1 + 1, 0, none⟩ = false := by rw [← hwB, World.frozen?_setCell]; exact g2 _
  have RQB : Hid (Row wB (w.heap.size + 3) n (word 0)) := RQ.out.of_block (hne' _ (by omega) (by omega))
  have RR : Hid (wB.heap[w.heap.size + 4]? = some (.cells (List.replicate (m + 1) (Value.int .u64 0)).toArray 131 (0, 0))) := by
    show _ = _
    rw [hne _ (by omega), ← hsA, World.alloc_heap_new]
    rw [made_replicate]
  have BB : Hid (Below w.heap.size w wB) := by rw [← hwB]; exact (BA.out.alloc BA.out.size _).setCell (p := ⟨w.heap.size + 1 + 1, 0, none⟩) (by simp; omega) _
  have SB : Hid (wB.heap.size = w.heap.size + 5) := by rw [← hwB]; show _ = _; simp [go_sem]; omega
  clear hwB hne hne' hsA d2 g2 a0 a1 a2 e1 e2 RQ BA SA hmk3
  have HCl := Lib.hid (clone_any b n c V wB.drew.drew (by omega) (by show b < wB.heap.size; have := SB.out; omega) (HA.out _ BB.out.drew.drew))
  have hwl : wlen (V / 2 ^ many) ≤ m := wlen_le (Nat.lt_trans hsmall HU.out.1)
  have hwln : wlen (V / 2 ^ many) ≤ n := wlen_le (Nat.lt_of_le_of_lt (Nat.div_le_self _ _) HV.out.1)
  go_region_held3 (fun w' => w'.cell? ⟨w.heap.size + 1 + 1, 0, none⟩ = some (.slice (some ⟨w.heap.size + 4, 0, none⟩) (m + 1) (m + 1))) (first | exact b2 | go_keep)
    (first
      | (go_at_call 92; refine HCl.out.mono ?_; rintro e w2 ⟨gg, cap, rfl, hgg, hcap, hrow, hbel⟩; have hgg5 : w.heap.size + 5 ≤ gg := (by have e5 : wB.heap.size = w.heap.size + 5 := SB.out; have e6 : wB.heap.size ≤ gg := hgg; omega); have k2 : w2.cell? ⟨w.heap.size + 1 + 1, 0, none⟩ = some (.slice (some ⟨w.heap.size + 4, 0, none⟩) (m + 1) (m + 1)) := ((hbel.cell (p := ⟨w.heap.size + 1 + 1, 0, none⟩) (by have : wB.heap.size = w.heap.size + 5 := SB.out; show w.heap.size + 1 + 1 < wB.heap.size; omega)).trans b2))
      | (go_at_call 93; refine (shift_any gg n n cap V many (word V) w2 HV.out.1 (fun _ _ => rfl) (Nat.le_refl _) (by omega) hcap (by omega) hrow).mono ?_; rintro e w3 ⟨rfl, hrow3, hg3, hs3⟩; have k3 : w3.cell? ⟨w.heap.size + 1 + 1, 0, none⟩ = some (.slice (some ⟨w.heap.size + 4, 0, none⟩) (m + 1) (m + 1)) := hg3.cell k2 (fun e => by have e' : w.heap.size + 1 + 1 = gg := Option.some.inj e; omega))
      | (refine step_copy_splice rfl (.tmp 58) (.tmp 62) 99 99 rfl 131 Tryz.underlying99 (by kernel_rfl) (some ⟨w.heap.size + 4, 0, none⟩) (some ⟨gg, 0, none⟩) (m + 1) (m + 1) (wlen (V / 2 ^ many)) cap rfl rfl (w.heap.size + 4) 0 (List.replicate (m + 1) (Value.int .u64 0)) 131 ?q1 ((List.range (wlen (V / 2 ^ many))).map fun j => Value.int .u64 (word (V / 2 ^ many) j : Int)) ?q2 ?q3 ?q4 ?q5 (w.heap.size + 4) wB ?q6 (Nat.le_refl _) ?_
         case q1 => exact (hg3.block _ (by have e5 : wB.heap.size = w.heap.size + 5 := SB.out; have e6 := hbel.size; have e7 : wB.heap.size ≤ w2.heap.size := e6; omega) (fun e => by have e' := Option.some.inj e; omega)).trans ((hbel.block _ (by have e5 : wB.heap.size = w.heap.size + 5 := SB.out; show _ < wB.heap.size; omega)).trans RR.out)
         case q2 => simp [Nat.min_def]; omega
         case q3 => exact fun _ => ⟨rfl, _, rfl, fun j v hj => by
           have hj' : j < wlen (V / 2 ^ many) := by have := (List.getElem?_eq_some_iff.1 hj).1; simpa using this
           have hv : v = .int .u64 (word (V / 2 ^ many) j : Int) := by simp [hj'] at hj; exact hj.symm
           rw [hv]
           have := hrow3.cell (i := j) (by omega)
           simp only [mix] at this
           rw [if_pos (by omega)] at this
           have ea : (⟨gg, 0, none⟩ : Addr).add j = ⟨gg, j, none⟩ := by simp [Addr.add]; omega
           rw [ea]; exact this⟩
         case q4 => simp; omega
         case q5 => intro v hv; simp at hv; obtain ⟨j, _, rfl⟩ := hv; rfl
         case q6 =>
           have e5 : wB.heap.size = w.heap.size + 5 := SB.out
           have hb0 : Below (w.heap.size + 4) wB wB.drew.drew := ((Below.refl _ wB).drew).drew
           have hb1 := hb0.trans (hbel.mono (show w.heap.size + 4 ≤ wB.heap.size by omega))
           exact hb1.grown hg3 (by have e6 : wB.heap.size ≤ w2.heap.size := hbel.size; omega) (fun k e => by cases e; omega)
         intro w4 hg4 hb4; have k4 : w4.cell? ⟨w.heap.size + 1 + 1, 0, none⟩ = some (.slice (some ⟨w.heap.size + 4, 0, none⟩) (m + 1) (m + 1)) := (hb4.cell (p := ⟨w.heap.size + 1 + 1, 0, none⟩) (by simp)).trans b2))
  have k0 : w4.cell? ⟨w.heap.size, 0, none⟩ = some (.slice (some ⟨b', 0, none⟩) m c') := (hb4.cell (p := ⟨w.heap.size, 0, none⟩) (by simp)).trans b0
  have k1 : w4.cell? ⟨w.heap.size + 1, 0, none⟩ = some (.slice (some ⟨w.heap.size + 3, 0, none⟩) n n) := (hb4.cell (p := ⟨w.heap.size + 1, 0, none⟩) (by simp)).trans b1
  have j1 : w4.frozen? ⟨w.heap.size + 1, 0, none⟩ = false := (World.frozen?_of_block (hb4.block _ (by simp))).trans i1
  have j2 : w4.frozen? ⟨w.heap.size + 1 + 1, 0, none⟩ = false := (World.frozen?_of_block (hb4.block _ (by simp))).trans i2
  have RQ4 : Row w4 (w.heap.size + 3) n (word 0) := RQB.out.of_block (hb4.block _ (by omega))
  have RR4 : Row w4 (w.heap.size + 4) (m + 1) (word (V / 2 ^ many)) := row_splice (Nat.lt_trans hsmall (Nat.lt_of_lt_of_le HU.out.1 (Nat.pow_le_pow_right (by omega) (by omega)))) hg4.out
  have BB4 : Below w.heap.size w w4 := BB.out.trans (hb4.mono (by omega))
  have HD := Lib.hid (And.intro RQ4 (And.intro RR4 (And.intro BB4 (And.intro k0 (And.intro k1 (And.intro k4 (And.intro j1 j2)))))))
  clear RQ4 RR4 BB4 k0 k1 j1 j2 k4 hb4 hg4 hg3 hs3 hrow3 hrow hbel k2 k3 b0 b1 b2 i1 i2 RQB RR BB SB HCl hgg hgg5 hcap
  go_wp2_with (go_at_call 143; refine (low_any _ _ _ _ _).mono ?_; rintro e w5 ⟨rfl, rfl⟩)
  refine (wpIn_wide (n := 9)).1 ?_
  have hA5 : ∀ x, x < w4.heap.size → ((w4.alloc (.cells #[.slice (some ⟨b, 0, none⟩) n c] 99)).alloc (.cells #[.int .i64 (many : Int)] 3)).heap[x]? = w4.heap[x]? := fun x hx => (Below.heap_alloc _ _ _ (by simp; omega)).trans (Below.heap_alloc _ _ _ hx)
  obtain ⟨w5, hw5⟩ : ∃ w5, (w4.alloc (.cells #[.slice (some ⟨b, 0, none⟩) n c] 99)).alloc (.cells #[.int .i64 (many : Int)] 3) = w5 := ⟨_, rfl⟩
  have hcm : w5.cell? ⟨w4.heap.size + 1, 0, none⟩ = some (.int .i64 (many : Int)) := by rw [← hw5]; simp [go_sem]
  have hcw : w5.cell? ⟨w4.heap.size, 0, none⟩ = some (.slice (some ⟨b, 0, none⟩) n c) := by rw [← hw5]; simp [go_sem]
  have hs5 : w5.heap.size = w4.heap.size + 2 := by rw [← hw5]; simp [go_sem]
  have hB5 : Below w.heap.size w w5 := by rw [← hw5]; exact (HD.out.2.2.1.alloc HD.out.2.2.1.size _).alloc (by have := HD.out.2.2.1.size; simp; omega) _
  rw [hw5] at hA5 ⊢
  clear hw5
  have hst : DivSt w w5 b' n m c' (V / 2 ^ many) 0 := by
    obtain ⟨q1, q2, q3, q4, q5, q6, q7, q8⟩ := HD.out
    have hl := q2.lt
    refine ⟨?_, ?_, ?_, ?_, ?_, q1.of_block (hA5 _ (by omega)), q2.of_block (hA5 _ hl), ?_⟩
    · exact (World.cell?_of_block (hA5 _ (by simp; omega))).trans q4
    · exact (World.cell?_of_block (hA5 _ (by simp; omega))).trans q5
    · exact (World.cell?_of_block (hA5 _ (by simp; omega))).trans q6
    · exact (World.frozen?_of_block (hA5 _ (by simp; omega))).trans q7
    · exact (World.frozen?_of_block (hA5 _ (by simp; omega))).trans q8
    · exact hB5
  have hb5 : b < w5.heap.size := Nat.lt_of_lt_of_le hb hB5.size
  have hW4 : w.heap.size + 4 < w4.heap.size := HD.out.2.1.lt
  refine' wpIn_rangeFunc_ownF rfl (by omega) (gf := 173) (lb := #[.pointer (some ⟨w4.heap.size + 1, 0, none⟩), .pointer (some ⟨w4.heap.size, 0, none⟩)]) rfl trivial (enters_of Tryz.func173 (by kernel_rfl) rfl)
    (low_stops 8 (by omega) b n c V many (64 * n) (w4.heap.size + 1) w4.heap.size ⟨hmany0, hmanyn⟩ hmanyn (by omega) w5 (by omega) (by omega) hb5 hcm hcw (HA.out _ hB5)) Keep2.trans Keep2.book (Below.refl _ _) (fun _ => rfl)
    (fun pre W => ∃ R Q, (R, Q) = (pre.map (·.1)).foldl (dstep U (m + 1)) (V / 2 ^ many, 0) ∧ DivSt w W b' n m c' R Q)
    (fun _ _ _ => False) ?hI (fun _ _ _ _ _ hs _ _ => hs) ⟨_, _, rfl, hst⟩ _ ?assign ?body ?done ?stop
  case hI =>
    rintro pre A B row ⟨R, Q, e, hd⟩ hg hr
    have hl := hd.rr.lt
    refine ⟨R, Q, e, hd.of_blocks (fun x h1 h2 => hg.block x (by omega) (fun e' => ?_)) (hd.bel.grown hg (by have := hd.bel.size; omega) (fun k e' => by have := (hr k e').1; omega))⟩
    have := (hr x e'.symm).1
    omega
  case assign =>
    intro l x W K hK
    simp only [lowEncs]
    gi_wp2
    exact hK
  case body =>
    rintro l pre ⟨⟨i, bit⟩, hi, hbit⟩ W ⟨R, Q, e, hd⟩ _
    simp only [] at hi hbit ⊢
    have hcr := hd.cr
    have HDD := Lib.hid hd
    clear hd
    gi_wp2
    have hl4 := HDD.out.rr.lt
    gi_loopw [10, 71] (fun bt jj wr => ∃ k : Nat, k ≤ m + 1 ∧ jj = .int .i64 (k : Int) ∧ bt = .int .u64 (carry R bit k : Int) ∧ Row wr (w.heap.size + 4) (m + 1) (mix k (word (2 * R + bit)) (word R)) ∧ W.grownBy wr (some (w.heap.size + 4)) ∧ wr.heap.size = W.heap.size) (fun _ jj _ => m + 1 - (intOf jj).toNat)
    case atStart =>
      refine ⟨0, by omega, rfl, by simp [carry], HDD.out.rr.congr (fun j _ => by simp [mix]), World.grownBy.refl _ _, rfl⟩
    case round =>
      obtain ⟨k, hk, rfl, rfl, hrow, hgr, hsz⟩ := hrel
      by_cases hlt : k < m + 1
      · have hcell := hrow.cell (i := k) hlt
        rw [show mix k (word (2 * R + bit)) (word R) k = word R k from by simp [mix]] at hcell
        have hfroz := hrow.frozen k
        have hcr2 : wr.cell? ⟨w.heap.size + 1 + 1, 0, none⟩ = some (.slice (some ⟨w.heap.size + 4, 0, none⟩) (m + 1) (m + 1)) := hgr.cell hcr (fun e => by have := Option.some.inj e; simp at this)
        have n1 : ¬ w.heap.size + 4 = w.heap.size + 1 + 1 := by omega
        have n2 : ¬ w.heap.size + 1 + 1 = w.heap.size + 4 := by omega
        gi_wp2
        -- <20>
        refine wpIn_region_round_held (S := (fun w' => w'.cell? ⟨w.heap.size + 1 + 1, 0, none⟩ = some (.slice (some ⟨w.heap.size + 4, 0, none⟩) (m + 1) (m + 1)))) (by kernel_rfl) (by kernel_rfl) ?_ (fun hHeld => ?_)
        · exact hcr2
        refine rh_take (i := 0) (v := ?_) rfl (by kernel_rfl) (by kernel_rfl) (by kernel_rfl) (by rfl) (by assumption) ?_ ?_
        rotate_left
        · (intro w hSw; (try dsimp only at hSw); go_simp; try (with_reducible rfl))
        (try simp only [Act.put, List.setIfInBounds_toArray, List.set_cons_zero, List.set_cons_succ])
        refine rh_take (i := 1) (v := ?_) rfl (by kernel_rfl) (by kernel_rfl) (by kernel_rfl) (by rfl) (by assumption) ?_ ?_
        rotate_left
        · (intro w hSw; (try dsimp only at hSw); go_simp; try (with_reducible rfl))
        (try simp only [Act.put, List.setIfInBounds_toArray, List.set_cons_zero, List.set_cons_succ])
        refine rh_take (i := 2) (v := ?_) rfl (by kernel_rfl) (by kernel_rfl) (by kernel_rfl) (by rfl) (by assumption) ?_ ?_
        rotate_left
        · (intro w hSw; (try dsimp only at hSw); go_simp; try (with_reducible rfl))
        (try simp only [Act.put, List.setIfInBounds_toArray, List.set_cons_zero, List.set_cons_succ])
        refine rh_take (i := 3) (v := ?_) rfl (by kernel_rfl) (by kernel_rfl) (by kernel_rfl) (by rfl) (by assumption) ?_ ?_
        rotate_left
        · (intro w hSw; (try dsimp only at hSw); go_simp; try (with_reducible rfl))
        (try simp only [Act.put, List.setIfInBounds_toArray, List.set_cons_zero, List.set_cons_succ])
        refine rh_take (i := 4) (v := ?_) rfl (by kernel_rfl) (by kernel_rfl) (by kernel_rfl) (by rfl) (by assumption) ?_ ?_
        rotate_left
        · (intro w hSw; (try dsimp only at hSw); go_simp; try (with_reducible rfl))
        (try simp only [Act.put, List.setIfInBounds_toArray, List.set_cons_zero, List.set_cons_succ])
        refine rh_take (i := 7) (v := ?_) rfl (by kernel_rfl) (by kernel_rfl) (by kernel_rfl) (by rfl) (by assumption) ?_ ?_
        rotate_left
        · (intro w hSw; (try dsimp only at hSw); go_simp; try (with_reducible rfl))
        (try simp only [Act.put, List.setIfInBounds_toArray, List.set_cons_zero, List.set_cons_succ])
        refine rh_take (i := 9) (v := ?_) rfl (by kernel_rfl) (by kernel_rfl) (by kernel_rfl) (by rfl) (by assumption) ?_ ?_
        rotate_left
        · (intro w hSw; (try dsimp only at hSw); go_simp; try (with_reducible rfl))
        (try simp only [Act.put, List.setIfInBounds_toArray, List.set_cons_zero, List.set_cons_succ])
        refine rh_take (i := 10) (v := ?_) rfl (by kernel_rfl) (by kernel_rfl) (by kernel_rfl) (by rfl) (by assumption) ?_ ?_
        rotate_left
        · (intro w hSw; (try dsimp only at hSw); go_simp; try (with_reducible rfl))
        (try simp only [Act.put, List.setIfInBounds_toArray, List.set_cons_zero, List.set_cons_succ])
        refine rh_take (i := 11) (v := ?_) rfl (by kernel_rfl) (by kernel_rfl) (by kernel_rfl) (by rfl) (by assumption) ?_ ?_
        rotate_left
        · (intro w hSw; (try dsimp only at hSw); go_simp; try (with_reducible rfl))
        (try simp only [Act.put, List.setIfInBounds_toArray, List.set_cons_zero, List.set_cons_succ])
        refine wpAnyH_ready (rs := [5, 12]) (by kernel_rfl) (by simp) ?_
        refine rh_cons (i := 5) rfl (fun K hK => ?_) ?_
        · go_simp
          refine hK.out _ _ ?_ (fun hHeld => ?_)
          · (try dsimp only)
            first | exact hcr2 | go_keep
          clear hK K
          (try simp only [Act.put, List.setIfInBounds_toArray, List.set_cons_zero, List.set_cons_succ])
          refine rh_take (i := 6) (v := ?_) rfl (by kernel_rfl) (by kernel_rfl) (by kernel_rfl) (by rfl) (by assumption) ?_ ?_
          rotate_left
          · (intro w hSw; (try dsimp only at hSw); go_simp; try (with_reducible rfl))
          (try simp only [Act.put, List.setIfInBounds_toArray, List.set_cons_zero, List.set_cons_succ])
          refine rh_take (i := 8) (v := ?_) rfl (by kernel_rfl) (by kernel_rfl) (by kernel_rfl) (by rfl) (by assumption) ?_ ?_
          rotate_left
          · (intro w hSw; (try dsimp only at hSw); go_simp; try (with_reducible rfl))
          (try simp only [Act.put, List.setIfInBounds_toArray, List.set_cons_zero, List.set_cons_succ])
          refine wpAnyH_ready (rs := [12]) (by kernel_rfl) (by simp) ?_
          refine rh_cons (i := 12) rfl (fun K hK => ?_) ?_
          · go_simp
            refine hK.out _ _ ?_ (fun hHeld => ?_)
            · (try dsimp only)
              first | exact hcr2 | go_keep
            clear hK K
            (try simp only [Act.put, List.setIfInBounds_toArray, List.set_cons_zero, List.set_cons_succ])
            refine rh_take (i := 13) (v := ?_) rfl (by kernel_rfl) (by kernel_rfl) (by kernel_rfl) (by rfl) (by assumption) ?_ ?_
            rotate_left
            · (intro w hSw; (try dsimp only at hSw); go_simp; try (with_reducible rfl))
            (try simp only [Act.put, List.setIfInBounds_toArray, List.set_cons_zero, List.set_cons_succ])
            refine rh_take (i := 14) (v := ?_) rfl (by kernel_rfl) (by kernel_rfl) (by kernel_rfl) (by rfl) (by assumption) ?_ ?_
            rotate_left
            · (intro w hSw; (try dsimp only at hSw); go_simp; try (with_reducible rfl))
            (try simp only [Act.put, List.setIfInBounds_toArray, List.set_cons_zero, List.set_cons_succ])
            refine wpAnyH_ready (rs := [15]) (by kernel_rfl) (by simp) ?_
            refine rh_cons (i := 15) rfl (fun K hK => ?_) ?_
            · go_simp
              refine hK.out _ _ ?_ (fun hHeld => ?_)
              · (try dsimp only)
                first | exact hcr2 | go_keep
              clear hK K
              (try simp only [Act.put, List.setIfInBounds_toArray, List.set_cons_zero, List.set_cons_succ])
              refine rh_take (i := 16) (v := ?_) rfl (by kernel_rfl) (by kernel_rfl) (by kernel_rfl) (by rfl) (by assumption) ?_ ?_
              rotate_left
              · (intro w hSw; (try dsimp only at hSw); go_simp; try (with_reducible rfl))
              (try simp only [Act.put, List.setIfInBounds_toArray, List.set_cons_zero, List.set_cons_succ])
              refine wpAnyH_done (by kernel_rfl) ?_ _
              refine Calm.normal ?_
              gi_wp2
              exact ⟨double_round hlt hbit hrow hgr hsz, by simp [intOf]; omega⟩
            exact AllReadyH.nil
          exact AllReadyH.nil
        refine rh_cons (i := 12) rfl (fun K hK => ?_) ?_
        · go_simp
          refine hK.out _ _ ?_ (fun hHeld => ?_)
          · (try dsimp only)
            first | exact hcr2 | go_keep
          clear hK K
          (try simp only [Act.put, List.setIfInBounds_toArray, List.set_cons_zero, List.set_cons_succ])
          refine rh_take (i := 13) (v := ?_) rfl (by kernel_rfl) (by kernel_rfl) (by kernel_rfl) (by rfl) (by assumption) ?_ ?_
          rotate_left
          · (intro w hSw; (try dsimp only at hSw); go_simp; try (with_reducible rfl))
          (try simp only [Act.put, List.setIfInBounds_toArray, List.set_cons_zero, List.set_cons_succ])
          refine wpAnyH_ready (rs := [5]) (by kernel_rfl) (by simp) ?_
          refine rh_cons (i := 5) rfl (fun K hK => ?_) ?_
          · go_simp
            refine hK.out _ _ ?_ (fun hHeld => ?_)
            · (try dsimp only)
              first | exact hcr2 | go_keep
            clear hK K
            (try simp only [Act.put, List.setIfInBounds_toArray, List.set_cons_zero, List.set_cons_succ])
            refine rh_take (i := 6) (v := ?_) rfl (by kernel_rfl) (by kernel_rfl) (by kernel_rfl) (by rfl) (by assumption) ?_ ?_
            rotate_left
            · (intro w hSw; (try dsimp only at hSw); go_simp; try (with_reducible rfl))
            (try simp only [Act.put, List.setIfInBounds_toArray, List.set_cons_zero, List.set_cons_succ])
            refine rh_take (i := 8) (v := ?_) rfl (by kernel_rfl) (by kernel_rfl) (by kernel_rfl) (by rfl) (by assumption) ?_ ?_
            rotate_left
            · (intro w hSw; (try dsimp only at hSw); go_simp; try (with_reducible rfl))
            (try simp only [Act.put, List.setIfInBounds_toArray, List.set_cons_zero, List.set_cons_succ])
            refine rh_take (i := 14) (v := ?_) rfl (by kernel_rfl) (by kernel_rfl) (by kernel_rfl) (by rfl) (by assumption) ?_ ?_
            rotate_left
            · (intro w hSw; (try dsimp only at hSw); go_simp; try (with_reducible rfl))
            (try simp only [Act.put, List.setIfInBounds_toArray, List.set_cons_zero, List.set_cons_succ])
            refine wpAnyH_ready (rs := [15]) (by kernel_rfl) (by simp) ?_
            refine rh_cons (i := 15) rfl (fun K hK => ?_) ?_
            · go_simp
              refine hK.out _ _ ?_ (fun hHeld => ?_)
              · (try dsimp only)
                first | exact hcr2 | go_keep
              clear hK K
              (try simp only [Act.put, List.setIfInBounds_toArray, List.set_cons_zero, List.set_cons_succ])
              refine rh_take (i := 16) (v := ?_) rfl (by kernel_rfl) (by kernel_rfl) (by kernel_rfl) (by rfl) (by assumption) ?_ ?_
              rotate_left
              · (intro w hSw; (try dsimp only at hSw); go_simp; try (with_reducible rfl))
              (try simp only [Act.put, List.setIfInBounds_toArray, List.set_cons_zero, List.set_cons_succ])
              refine wpAnyH_done (by kernel_rfl) ?_ _
              refine Calm.normal ?_
              gi_wp2
              exact ⟨double_round hlt hbit hrow hgr hsz, by simp [intOf]; omega⟩
            exact AllReadyH.nil
          exact AllReadyH.nil
        exact AllReadyH.nil
        -- </20>
      · obtain rfl : k = m + 1 := by omega
        have hR0 : Row wr (w.heap.size + 4) (m + 1) (word (2 * R + bit)) := hrow.congr (fun j hj => by simp only [mix]; rw [if_pos hj])
        obtain ⟨R1, hR1⟩ : ∃ R1, (2 * R + bit) % 18446744073709551616 ^ (m + 1) = R1 := ⟨_, rfl⟩
        have hlt1 : R1 < 18446744073709551616 ^ (m + 1) := by rw [← hR1]; exact Nat.mod_lt _ (wpow_pos _)
        have HR := Lib.hid (show Row wr (w.heap.size + 4) (m + 1) (word R1) from hR0.congr (fun j hj => by rw [← hR1, word_mod _ _ _ hj]))
        have HO := Lib.hid (Only34.of_grown hgr hsz)
        have HL1 := Lib.hid hlt1
        have HE1 := Lib.hid hR1
        have HEQ := Lib.hid e
        have HQ1 := Lib.hid (HDD.out.rq.of_block (hgr.block _ (by have := HDD.out.rr.lt; omega) (fun e => by have := Option.some.inj e; omega)))
        have HN := Lib.hid (HDD.out.next HO.out HQ1.out HR.out)
        have hcr1 := HN.out.cr
        have hcb1 := HN.out.cb
        have hwl1 : wlen R1 ≤ m + 1 := wlen_le HL1.out
        have hcmp1 : (U ≤ R1 ∧ 0 ≤ cmpN R1 U) ∨ (R1 < U ∧ cmpN R1 U < 0) := by
          unfold cmpN
          by_cases h1 : R1 < U
          · right; simp [h1]
          · left; refine ⟨by omega, ?_⟩; rw [if_neg h1]; split <;> omega
        have HC1 := Lib.hid (fun W' (hW' : W' = wr.drew) => compare_any (w.heap.size + 4) b' (wlen R1) m (m + 1) c' R1 U W' (wlen_trim R1) HU.out (by omega) (by omega) (by rw [hW']; exact (HR.out.less hwl1).wds) (by rw [hW']; exact HU'.out wr.drew HN.out.bel.drew))
        have HT1 := Lib.hid (trim_any (w.heap.size + 4) (m + 1) (m + 1) R1 wr.drew HL1.out (by omega) (Nat.le_refl _) HR.out.wds)
        have HDW := Lib.hid HDD.out
        have hszW : w.heap.size + 4 < W.heap.size := HDD.out.rr.lt
        generalize cmpN R1 U = cm1 at *
        clear hrow hgr hsz hR0 hR1 hlt1 e hcr HDD hk hlt
        rcases hcmp1 with ⟨hle1, hcm1⟩ | ⟨hlt2, hcm1⟩
        · have tcm1 : decide (0 ≤ cm1) = true := by simp; omega
          gi_wp2
          -- <22a>
          refine wpIn_region_round_held (S := (fun w' => w'.cell? ⟨w.heap.size + 1 + 1, 0, none⟩ = some (.slice (some ⟨w.heap.size + 4, 0, none⟩) (m + 1) (m + 1)) ∧ w'.cell? ⟨w.heap.size, 0, none⟩ = some (.slice (some ⟨b', 0, none⟩) m c'))) (by kernel_rfl) (by kernel_rfl) ?_ (fun hHeld => ?_)
          · exact ⟨hcr1, hcb1⟩
          refine rh_take (i := 0) (v := ?_) rfl (by kernel_rfl) (by kernel_rfl) (by kernel_rfl) (by rfl) (by assumption) ?_ ?_
          rotate_left
          · (intro w hSw; (try dsimp only at hSw); go_simp; try (with_reducible rfl))
          (try simp only [Act.put, List.setIfInBounds_toArray, List.set_cons_zero, List.set_cons_succ])
          refine rh_take (i := 2) (v := ?_) rfl (by kernel_rfl) (by kernel_rfl) (by kernel_rfl) (by rfl) (by assumption) ?_ ?_
          rotate_left
          · (intro w hSw; (try dsimp only at hSw); go_simp; try (with_reducible rfl))
          (try simp only [Act.put, List.setIfInBounds_toArray, List.set_cons_zero, List.set_cons_succ])
          refine wpAnyH_ready (rs := [1]) (by kernel_rfl) (by simp) ?_
          refine rh_cons (i := 1) rfl (fun K hK => ?_) ?_
          · go_simp
            refine HT1.out.mono ?_
            rintro e w5 ⟨rfl, rfl⟩
            go_wp2_with fail
            refine hK.out _ _ ?_ (fun hHeld => ?_)
            · (try dsimp only)
              first | exact ⟨hcr1, hcb1⟩ | go_keep
            clear hK K
            (try simp only [Act.put, List.setIfInBounds_toArray, List.set_cons_zero, List.set_cons_succ])
            refine wpAnyH_ready (rs := [3]) (by kernel_rfl) (by simp) ?_
            refine rh_cons (i := 3) rfl (fun K hK => ?_) ?_
            · go_simp
              refine (HC1.out _ rfl).mono ?_
              rintro e w6 ⟨rfl, q6, rfl⟩
              go_wp2_with fail
              refine hK.out _ _ ?_ (fun hHeld => ?_)
              · (try dsimp only)
                first | exact ⟨hcr1, hcb1⟩ | go_keep
              clear hK K
              (try simp only [Act.put, List.setIfInBounds_toArray, List.set_cons_zero, List.set_cons_succ])
              refine rh_take (i := 4) (v := ?_) rfl (by kernel_rfl) (by kernel_rfl) (by kernel_rfl) (by rfl) (by assumption) ?_ ?_
              rotate_left
              · (intro w hSw; (try dsimp only at hSw); go_simp; try (with_reducible rfl))
              (try simp only [Act.put, List.setIfInBounds_toArray, List.set_cons_zero, List.set_cons_succ])
              refine wpAnyH_done (by kernel_rfl) ?_ _
              refine Calm.normal ?_
              gi_wp2
              refine ⟨trivial, ?_⟩
              refine (CallsIn.inRound l (callsIn_wide.2 (reduce_any (w.heap.size + 4) b' (m + 1) (m + 1) m (m + 1) c' R1 U (word R1) _ HU.out.1 HL1.out hle1 (fun _ _ => rfl) (Nat.le_refl _) (by omega) (by omega) (HR.out.drewN _) (HU'.out _ ((HO.out.drewN _).below HDW.out.bel))))).mono ?_
              rintro e w7 ⟨rfl, hr7, hg7, hs7⟩
              have HO7 := Lib.hid ((HO.out.drewN _).trans (Only34.of_grown hg7 hs7))
              have HR7 := Lib.hid (show Row w7 (w.heap.size + 4) (m + 1) (word (R1 - U)) from hr7.congr (fun j hj => by simp only [mix]; rw [if_pos hj]))
              have HQ7 := Lib.hid ((HQ1.out.drewN (1 + q6)).of_block (hg7.block _ HQ1.out.lt (fun e => by have := Option.some.inj e; omega)))
              have HN7 := Lib.hid (HDW.out.next HO7.out HQ7.out HR7.out)
              have hcq7 := HN7.out.cq
              have hcell7 := HQ7.out.cell (i := i / 64) (by omega)
              have hfr7 := HQ7.out.frozen (i / 64)
              have x1 : IntKind.i64.wrap ((i : Int) / 64) = (i : Int) / 64 := by rw [IntKind.wrap_i64]; omega
              have x2 : ((i : Int) / 64).toNat = i / 64 := by omega
              have x3 : (0 : Int) ≤ (i : Int) / 64 := by omega
              have x4 : (i : Int) / 64 < (n : Int) := by omega
              have x5 : IntKind.i64.wrap ((i : Int) % 64) = (i : Int) % 64 := by rw [IntKind.wrap_i64]; omega
              have x6 : ((i : Int) % 64).toNat = i % 64 := by omega
              have x7 : (0 : Int) ≤ (i : Int) % 64 := by omega
              have x8 : (i : Int).tmod 64 = ((i % 64 : Nat) : Int) := by rw [Int.tmod_eq_emod_of_nonneg (by omega)]; omega
              have x9 : min (i % 64) 64 = i % 64 := by omega
              have n3 : ¬ w.heap.size + 3 = w.heap.size + 1 := by omega
              have n4 : ¬ w.heap.size + 1 = w.heap.size + 3 := by omega
              clear hr7 hg7 hs7
              gi_wp2
              refine wpIn_region_round_held (S := (fun w' => w'.cell? ⟨w.heap.size + 1, 0, none⟩ = some (.slice (some ⟨w.heap.size + 3, 0, none⟩) n n))) (by kernel_rfl) (by kernel_rfl) ?_ (fun hHeld => ?_)
              · exact hcq7
              refine rh_take (i := 0) (v := ?_) rfl (by kernel_rfl) (by kernel_rfl) (by kernel_rfl) (by rfl) (by assumption) ?_ ?_
              rotate_left
              · (intro w hSw; (try dsimp only at hSw); go_simp; try (with_reducible rfl))
              (try simp only [Act.put, List.setIfInBounds_toArray, List.set_cons_zero, List.set_cons_succ])
              refine rh_take (i := 1) (v := ?_) rfl (by kernel_rfl) (by kernel_rfl) (by kernel_rfl) (by rfl) (by assumption) ?_ ?_
              rotate_left
              · (intro w hSw; (try dsimp only at hSw); go_simp; try (with_reducible rfl))
              (try simp only [Act.put, List.setIfInBounds_toArray, List.set_cons_zero, List.set_cons_succ])
              refine rh_take (i := 2) (v := ?_) rfl (by kernel_rfl) (by kernel_rfl) (by kernel_rfl) (by rfl) (by assumption) ?_ ?_
              rotate_left
              · (intro w hSw; (try dsimp only at hSw); go_simp; try (with_reducible rfl))
              (try simp only [Act.put, List.setIfInBounds_toArray, List.set_cons_zero, List.set_cons_succ])
              refine rh_take (i := 3) (v := ?_) rfl (by kernel_rfl) (by kernel_rfl) (by kernel_rfl) (by rfl) (by assumption) ?_ ?_
              rotate_left
              · (intro w hSw; (try dsimp only at hSw); go_simp; try (with_reducible rfl))
              (try simp only [Act.put, List.setIfInBounds_toArray, List.set_cons_zero, List.set_cons_succ])
              refine rh_take (i := 5) (v := ?_) rfl (by kernel_rfl) (by kernel_rfl) (by kernel_rfl) (by rfl) (by assumption) ?_ ?_
              rotate_left
              · (intro w hSw; (try dsimp only at hSw); go_simp; try (with_reducible rfl))
              (try simp only [Act.put, List.setIfInBounds_toArray, List.set_cons_zero, List.set_cons_succ])
              refine rh_take (i := 6) (v := ?_) rfl (by kernel_rfl) (by kernel_rfl) (by kernel_rfl) (by rfl) (by assumption) ?_ ?_
              rotate_left
              · (intro w hSw; (try dsimp only at hSw); go_simp; try (with_reducible rfl))
              (try simp only [Act.put, List.setIfInBounds_toArray, List.set_cons_zero, List.set_cons_succ])
              refine rh_take (i := 7) (v := ?_) rfl (by kernel_rfl) (by kernel_rfl) (by kernel_rfl) (by rfl) (by assumption) ?_ ?_
              rotate_left
              · (intro w hSw; (try dsimp only at hSw); go_simp; try (with_reducible rfl))
              (try simp only [Act.put, List.setIfInBounds_toArray, List.set_cons_zero, List.set_cons_succ])
              refine wpAnyH_ready (rs := [4]) (by kernel_rfl) (by simp) ?_
              refine rh_cons (i := 4) rfl (fun K hK => ?_) ?_
              · go_simp
                refine hK.out _ _ ?_ (fun hHeld => ?_)
                · (try dsimp only)
                  first | exact hcq7 | go_keep
                clear hK K
                (try simp only [Act.put, List.setIfInBounds_toArray, List.set_cons_zero, List.set_cons_succ])
                refine rh_take (i := 8) (v := ?_) rfl (by kernel_rfl) (by kernel_rfl) (by kernel_rfl) (by rfl) (by assumption) ?_ ?_
                rotate_left
                · (intro w hSw; (try dsimp only at hSw); go_simp; try (with_reducible rfl))
                (try simp only [Act.put, List.setIfInBounds_toArray, List.set_cons_zero, List.set_cons_succ])
                refine rh_take (i := 9) (v := ?_) rfl (by kernel_rfl) (by kernel_rfl) (by kernel_rfl) (by rfl) (by assumption) ?_ ?_
                rotate_left
                · (intro w hSw; (try dsimp only at hSw); go_simp; try (with_reducible rfl))
                (try simp only [Act.put, List.setIfInBounds_toArray, List.set_cons_zero, List.set_cons_succ])
                refine wpAnyH_ready (rs := [10]) (by kernel_rfl) (by simp) ?_
                refine rh_cons (i := 10) rfl (fun K hK => ?_) ?_
                · go_simp
                  refine hK.out _ _ ?_ (fun hHeld => ?_)
                  · (try dsimp only)
                    first | exact hcq7 | go_keep
                  clear hK K
                  (try simp only [Act.put, List.setIfInBounds_toArray, List.set_cons_zero, List.set_cons_succ])
                  refine wpAnyH_done (by kernel_rfl) ?_ _
                  refine Calm.normal ?_
                  gi_wp2
                  have HOF := Lib.hid ((HO7.out.set (j := i / 64) (.int .u64 (bits .or .u64 (word Q (i / 64) : Int) (IntKind.u64.wrap (2 ^ (i % 64)))))).drew)
                  refine ⟨HOF.out.keeps HDW.out.rq HDW.out.rr, HOF.out.keep2 hb (by omega), R1 - U, Q ||| 2 ^ i, ?_, HDW.out.next HOF.out (or_row HQ7.out) (HR7.out.of_block (Below.heap_setCell _ _ _ _ (by simp)))⟩
                  rw [List.map_append, List.foldl_append, ← HEQ.out]
                  simp only [List.map_cons, List.map_nil, List.foldl_cons, List.foldl_nil, dstep, HE1.out]
                  rw [if_pos hle1]
                exact AllReadyH.nil
              exact AllReadyH.nil
            exact AllReadyH.nil
          exact AllReadyH.nil
          -- </22a>
        · have tcm1 : decide (0 ≤ cm1) = false := by simp; omega
          gi_wp2
          -- <22b>
          refine wpIn_region_round_held (S := (fun w' => w'.cell? ⟨w.heap.size + 1 + 1, 0, none⟩ = some (.slice (some ⟨w.heap.size + 4, 0, none⟩) (m + 1) (m + 1)) ∧ w'.cell? ⟨w.heap.size, 0, none⟩ = some (.slice (some ⟨b', 0, none⟩) m c'))) (by kernel_rfl) (by kernel_rfl) ?_ (fun hHeld => ?_)
          · exact ⟨hcr1, hcb1⟩
          refine rh_take (i := 0) (v := ?_) rfl (by kernel_rfl) (by kernel_rfl) (by kernel_rfl) (by rfl) (by assumption) ?_ ?_
          rotate_left
          · (intro w hSw; (try dsimp only at hSw); go_simp; try (with_reducible rfl))
          (try simp only [Act.put, List.setIfInBounds_toArray, List.set_cons_zero, List.set_cons_succ])
          refine rh_take (i := 2) (v := ?_) rfl (by kernel_rfl) (by kernel_rfl) (by kernel_rfl) (by rfl) (by assumption) ?_ ?_
          rotate_left
          · (intro w hSw; (try dsimp only at hSw); go_simp; try (with_reducible rfl))
          (try simp only [Act.put, List.setIfInBounds_toArray, List.set_cons_zero, List.set_cons_succ])
          refine wpAnyH_ready (rs := [1]) (by kernel_rfl) (by simp) ?_
          refine rh_cons (i := 1) rfl (fun K hK => ?_) ?_
          · go_simp
            refine HT1.out.mono ?_
            rintro e w5 ⟨rfl, rfl⟩
            go_wp2_with fail
            refine hK.out _ _ ?_ (fun hHeld => ?_)
            · (try dsimp only)
              first | exact ⟨hcr1, hcb1⟩ | go_keep
            clear hK K
            (try simp only [Act.put, List.setIfInBounds_toArray, List.set_cons_zero, List.set_cons_succ])
            refine wpAnyH_ready (rs := [3]) (by kernel_rfl) (by simp) ?_
            refine rh_cons (i := 3) rfl (fun K hK => ?_) ?_
            · go_simp
              refine (HC1.out _ rfl).mono ?_
              rintro e w6 ⟨rfl, q6, rfl⟩
              go_wp2_with fail
              refine hK.out _ _ ?_ (fun hHeld => ?_)
              · (try dsimp only)
                first | exact ⟨hcr1, hcb1⟩ | go_keep
              clear hK K
              (try simp only [Act.put, List.setIfInBounds_toArray, List.set_cons_zero, List.set_cons_succ])
              refine rh_take (i := 4) (v := ?_) rfl (by kernel_rfl) (by kernel_rfl) (by kernel_rfl) (by rfl) (by assumption) ?_ ?_
              rotate_left
              · (intro w hSw; (try dsimp only at hSw); go_simp; try (with_reducible rfl))
              (try simp only [Act.put, List.setIfInBounds_toArray, List.set_cons_zero, List.set_cons_succ])
              refine wpAnyH_done (by kernel_rfl) ?_ _
              refine Calm.normal ?_
              gi_wp2
              refine ⟨(HO.out.drewN _).keeps HDW.out.rq HDW.out.rr, (HO.out.drewN _).keep2 hb (by omega), R1, Q, ?_, HDW.out.next (HO.out.drewN _) (HQ1.out.drewN _) (HR.out.drewN _)⟩
              rw [List.map_append, List.foldl_append, ← HEQ.out]
              simp only [List.map_cons, List.map_nil, List.foldl_cons, List.foldl_nil, dstep, HE1.out]
              rw [if_neg (by omega)]
            exact AllReadyH.nil
          exact AllReadyH.nil
          -- </22b>
  case done =>
    rintro D xs W hD rfl ⟨R, Q, e, hd⟩ hK
    rw [bitsA_val, dstep_end hUp (by have := HU.out.1; rw [Nat.pow_succ]; omega) hsmall] at e
    obtain ⟨rfl, rfl⟩ : R = V % U ∧ Q = V / U := by simpa using e
    have hcq := hd.cq
    have hcr := hd.cr
    have hfq := hd.fq
    have hfr := hd.fr
    have HDD := Lib.hid hd
    clear e hd
    go_wp2
    have n1 : ¬ w.heap.size + 1 = w.heap.size + 1 + 1 := by omega
    have n2 : ¬ w.heap.size + 1 + 1 = w.heap.size + 1 := by omega
    have ss1 : ∀ W' : World, W'.cell? ⟨w.heap.size + 1, 0, none⟩ = some (.slice (some ⟨w.heap.size + 3, 0, none⟩) n n) → (W'.setCell ⟨w.heap.size + 1, 0, none⟩ (.slice (some ⟨w.heap.size + 3, 0, none⟩) n n)).cell? ⟨w.heap.size + 1, 0, none⟩ = some (.slice (some ⟨w.heap.size + 3, 0, none⟩) n n) := fun W' e => World.cell?_setCell_same' _ _ _ (by rw [e]; rfl)
    have ss2 : ∀ W' : World, W'.cell? ⟨w.heap.size + 1 + 1, 0, none⟩ = some (.slice (some ⟨w.heap.size + 4, 0, none⟩) (m + 1) (m + 1)) → (W'.setCell ⟨w.heap.size + 1 + 1, 0, none⟩ (.slice (some ⟨w.heap.size + 4, 0, none⟩) (m + 1) (m + 1))).cell? ⟨w.heap.size + 1 + 1, 0, none⟩ = some (.slice (some ⟨w.heap.size + 4, 0, none⟩) (m + 1) (m + 1)) := fun W' e => World.cell?_setCell_same' _ _ _ (by rw [e]; rfl)
    go_region_held3 (fun w' => w'.cell? ⟨w.heap.size + 1, 0, none⟩ = some (.slice (some ⟨w.heap.size + 3, 0, none⟩) n n) ∧ w'.cell? ⟨w.heap.size + 1 + 1, 0, none⟩ = some (.slice (some ⟨w.heap.size + 4, 0, none⟩) (m + 1) (m + 1)) ∧ w'.frozen? ⟨w.heap.size + 1, 0, none⟩ = false ∧ w'.frozen? ⟨w.heap.size + 1 + 1, 0, none⟩ = false) (first | exact ⟨hcq, hcr, hfq, hfr⟩ | go_keep) (fail)
    all_goals go_wp2
    obtain ⟨Wf, hWf⟩ : ∃ Wf, ((W.setCell ⟨w.heap.size + 1, 0, none⟩ (.slice (some ⟨w.heap.size + 3, 0, none⟩) n n)).setCell ⟨w.heap.size + 1 + 1, 0, none⟩ (.slice (some ⟨w.heap.size + 4, 0, none⟩) (m + 1) (m + 1))).drew = Wf := ⟨_, rfl⟩
    have hKf : Wf.heap[D]? = some (.deferred (some [])) := by rw [← hWf]; exact (((KeepsOthers.setCell _ _ _).trans (KeepsOthers.setCell _ _ _)).trans (KeepsOthers.drew _)).same D _ hK rfl
    have h1f : Wf.cell? ⟨w.heap.size + 1, 0, none⟩ = some (.slice (some ⟨w.heap.size + 3, 0, none⟩) n n) := by
      rw [← hWf, cell_drew_own, World.cell?_of_block (w := W.setCell ⟨w.heap.size + 1, 0, none⟩ (.slice (some ⟨w.heap.size + 3, 0, none⟩) n n)) (Below.heap_setCell _ _ _ _ (by simp))]
      exact ss1 _ hcq
    have h2f : Wf.cell? ⟨w.heap.size + 1 + 1, 0, none⟩ = some (.slice (some ⟨w.heap.size + 4, 0, none⟩) (m + 1) (m + 1)) := by
      rw [← hWf]
      exact ss2 _ ((World.cell?_of_block (w := W) (Below.heap_setCell _ _ _ _ (by simp))).trans hcr)
    have h3f : Row Wf (w.heap.size + 3) n (word (V / U)) := by
      rw [← hWf]; exact (HDD.out.rq.of_block (Below.heap_setCell _ _ _ _ (by simp))).of_block (Below.heap_setCell _ _ _ _ (by simp))
    have h4f : Row Wf (w.heap.size + 4) (m + 1) (word (V % U)) := by
      rw [← hWf]; exact (HDD.out.rr.of_block (Below.heap_setCell _ _ _ _ (by simp))).of_block (Below.heap_setCell _ _ _ _ (by simp))
    have h5f : Below w.heap.size w Wf := by
      rw [← hWf]; exact ((HDD.out.bel.setCell (p := ⟨w.heap.size + 1, 0, none⟩) (by simp) _).setCell (p := ⟨w.heap.size + 1 + 1, 0, none⟩) (by simp; omega) _).drew
    rw [hWf]
    clear hWf ss1 ss2
    refine ⟨by simp, .inl ⟨_, _, rfl, run_takeDeferred hKf, ?_⟩⟩
    have hDne : w.heap.size + 4 < D := by omega
    have hkg : ∀ p v, Wf.cell? p = some v → (Wf.putObj D (.deferred none)).cell? p = some v := fun p v hc => cell_kept hc (grownBy_putObj' _ D (.deferred none)) (fun r e => by cases e; exact ⟨_, hKf, rfl⟩)
    have h1g := hkg _ _ h1f
    have h2g := hkg _ _ h2f
    have hsz : (Wf.putObj D (.deferred none)).heap.size = Wf.heap.size := by simp [World.putObj]
    have hl := h4f.lt
    refine ⟨.tuple #[.slice (some ⟨w.heap.size + 3, 0, none⟩) n n, .slice (some ⟨w.heap.size + 4, 0, none⟩) (m + 1) (m + 1)], by simp [results, Tryz.results99, go_sem, h1g, h2g], ?_⟩
    refine ⟨_, _, rfl, .inr ⟨_, _, _, rfl, Nat.lt_of_le_of_lt (Nat.div_le_self _ _) HV.out.1, by omega, Nat.le_refl _, by omega, fun j hj => hkg _ _ (h3f.cell hj)⟩, .inr ⟨_, _, _, rfl, Nat.lt_of_lt_of_le (Nat.lt_trans (Nat.mod_lt V hUp) HU.out.1) (Nat.pow_le_pow_right (by omega) (by omega)), by omega, Nat.le_refl _, by omega, fun j hj => hkg _ _ (h4f.cell hj)⟩, ?_⟩
    exact h5f.trans (belowK_b (w := w) (Nat.le_refl _) Wf D _ _ (by omega) hKf rfl rfl)
  case stop =>
    rintro D c pre W _ _ h _
    exact h.elim
end Go.Proofs.YtoolanjbmbcaiaaGreatDoor
namespace Go.Proofs.YtoolanjbmbcaiaaGreatDoor
open Go.RowKit Bf

theorem divide_any (b b' n m c c' V U : Nat) (w : World) (hV : Trim n V) (hU : Trim m U) (hn : n ≤ 4096) (hm : m ≤ 4096) (hc : n ≤ c) (hb : b < w.heap.size) (hb' : b' < w.heap.size) (h : Wds w b n V) (h' : Wds w b' m U) (hU0 : U ≠ 0) :
    Calls Tryz.prog 99 #[.slice (some ⟨b, 0, none⟩) n c, .slice (some ⟨b', 0, none⟩) m c'] w (DividePost w (V / U) (V % U)) := by
  by_cases hlt : V < U
  · exact divide_less b b' n m c c' V U w hV hU (by omega) (by omega) hc hb hb' h h' hlt
  · by_cases h1 : m = 1
    · subst h1
      exact divide_word b b' n c c' V U w hV hU (by omega) hb hb' h h' (by omega)
    · have h0 : m ≠ 0 := fun e => hU0 ((trim_zero_iff hU).1 e)
      exact divide_many b b' n m c c' V U w hV hU hn hm (by omega) hb hb' h h' (by omega)

theorem text_numQ {W : World} {v : Value} {V : Nat} (h : NumQ W v V) : Calls Tryz.prog 60 #[v] W (Ret W (.string (bs V))) := by
  rcases h with ⟨rfl, rfl⟩ | ⟨g, k, cap, rfl, hlt, hk, hcap, hg, hw⟩
  · exact text_nil W
  · exact text_some g k cap V W hlt (by omega) hg hw
theorem NumQ.below {W W' : World} {v : Value} {V : Nat} (h : NumQ W v V) (hb : Below W.heap.size W W') : NumQ W' v V := by
  rcases h with h | ⟨g, k, cap, rfl, hlt, hk, hcap, hg, hw⟩
  · exact .inl h
  · exact .inr ⟨g, k, cap, rfl, hlt, hk, hcap, Nat.lt_of_lt_of_le hg hb.size, hw.below hb hg⟩

set_option maxHeartbeats 1000000 in
theorem div_ok (a b : ByteArray) (w : World) (ha : Short a) (hb : Short b) (h0 : bv b ≠ 0) :
    Calls Tryz.prog 66 #[.string a, .string b] w (Ret w (.tuple #[.string (bs (bv a / bv b)), .string (bs (bv a % bv b)), .int .i64 0])) := by
  have hchk : chk (fun j => if j = 0 then a else b) 2 = 0 := chk_ok (fun j _ => by split <;> assumption)
  have HC := Lib.hid (check_any w.heap.size 2 2 (fun j => if j = 0 then a else b) (w.alloc (.cells #[.string a, .string b] 9)) (by omega) (two_cells w a b 9))
  rw [hchk] at HC
  have la := ha.2
  have lb := hb.2
  have HTa := Lib.hid (words_trim ha.1)
  have HTb := Lib.hid (words_trim hb.1)
  have HB0 := Lib.hid ((Below.refl w.heap.size w).alloc (Nat.le_refl _) (.cells #[.string a, .string b] 9))
  have hsz : 0 < b.size := by
    rcases Nat.eq_zero_or_pos b.size with e | e
    · exfalso
      have := bval_lt b.data.toList
      rw [size_eq, e] at this
      exact h0 (by unfold bv; omega)
    · exact e
  have te := isEmpty_false hsz
  clear hchk ha hb
  go_enter Tryz.func66, Tryz.ntmps66
  go_wp2_with fail
  refine HC.out.mono ?_
  rintro e w1 ⟨rfl, rfl⟩
  go_wp2_with fail
  refine (words_any a _ (by omega)).mono ?_
  rintro e w1 ⟨rfl, hr1, hb1, hs1⟩
  rw [World.size_alloc] at hr1 hs1 ⊢
  have HR1 := Lib.hid hr1
  have HB1 := Lib.hid (HB0.out.trans (hb1.mono (by simp)))
  have h1 : w.heap.size + 1 < w1.heap.size := hr1.lt
  clear hr1 hb1 hs1
  go_wp2_with fail
  refine (words_any b _ (by omega)).mono ?_
  rintro e w2 ⟨rfl, hr2, hb2, hs2⟩
  have HR1' := Lib.hid (HR1.out.below hb2 h1)
  have HR2 := Lib.hid hr2
  have HB2 := Lib.hid (HB1.out.trans (hb2.mono (by omega)))
  have h2 : w1.heap.size < w2.heap.size := hr2.lt
  clear hr2 hb2 hs2
  go_wp2_with fail
  refine (divide_any (w.heap.size + 1) w1.heap.size ((a.size + 7) / 8) ((b.size + 7) / 8) ((a.size + 7) / 8) ((b.size + 7) / 8) (bv a) (bv b) w2 HTa.out HTb.out (by omega) (by omega) (Nat.le_refl _) (by omega) (by omega) HR1'.out.wds HR2.out.wds h0).mono ?_
  rintro e w3 ⟨v, u, rfl, hv, hu, hb3⟩
  have HB3 := Lib.hid (HB2.out.trans (hb3.mono (by omega)))
  have hsz3 := hb3.size
  have HX := Lib.hid (text_numQ hv)
  have HU := Lib.hid hu
  clear hb3 hv hu
  go_wp2_with fail
  refine HX.out.mono ?_
  rintro e w4 ⟨rfl, hb4⟩
  have HB4 := Lib.hid (HB3.out.trans (hb4.mono (by omega)))
  have hsz4 := hb4.size
  have HX2 := Lib.hid (text_numQ (HU.out.below hb4))
  clear hb4
  go_wp2_with fail
  refine HX2.out.mono ?_
  rintro e w5 ⟨rfl, hb5⟩
  have HB5 := Lib.hid (HB4.out.trans (hb5.mono (by omega)))
  clear hb5
  go_wp2
  go_ret3
  exact ⟨rfl, HB5.out⟩
end Go.Proofs.YtoolanjbmbcaiaaGreatDoor
namespace Go.Proofs.YtoolanjbmbcaiaaGreatDoor.Bf

/-- The bound of natural numbers: those of at most 256 bytes. -/
def LIM : Nat := 256 ^ 256
theorem LIM_pos : 0 < LIM := Nat.pow_pos (by omega)

/-- A rational number: sign, numerator, denominator. -/
structure Rt where
  neg : Bool
  n : Nat
  d : Nat


/-- It is valid: in lowest terms, bounded, 0 not negative. -/
def Rt.ok (a : Rt) : Prop := a.n < LIM ∧ a.d < LIM ∧ 0 < a.d ∧ Nat.gcd a.n a.d = 1 ∧ (a.neg = true → a.n ≠ 0)
instance (a : Rt) : Decidable a.ok := by unfold Rt.ok; exact inferInstance

/-- n / d in lowest terms. -/
def lowR (neg : Bool) (n d : Nat) : Rt := ⟨neg && n != 0, n / Nat.gcd n d, d / Nat.gcd n d⟩
theorem lowR_ok {neg : Bool} {n d : Nat} (hn : n < LIM) (hd : d < LIM) (h0 : 0 < d) : (lowR neg n d).ok := by
  have hg : 0 < Nat.gcd n d := Nat.gcd_pos_of_pos_right n h0
  refine ⟨Nat.lt_of_le_of_lt (Nat.div_le_self _ _) hn, Nat.lt_of_le_of_lt (Nat.div_le_self _ _) hd, Nat.div_pos (Nat.le_of_dvd h0 (Nat.gcd_dvd_right n d)) hg, by show Nat.gcd (n / Nat.gcd n d) (d / Nat.gcd n d) = 1; rw [Nat.gcd_div (Nat.gcd_dvd_left n d) (Nat.gcd_dvd_right n d), Nat.div_self hg], ?_⟩
  intro h
  simp only [lowR, Bool.and_eq_true, bne_iff_ne, ne_eq] at h ⊢
  have hn0 : 0 < n := by omega
  have := Nat.div_pos (Nat.le_of_dvd hn0 (Nat.gcd_dvd_left n d)) hg
  omega
theorem div_gcd_zero {n d : Nat} (h0 : 0 < d) : n / Nat.gcd n d = 0 ↔ n = 0 := by
  have hg : 0 < Nat.gcd n d := Nat.gcd_pos_of_pos_right n h0
  constructor
  · intro h
    rcases Nat.eq_zero_or_pos n with e | e
    · exact e
    · have := Nat.div_pos (Nat.le_of_dvd e (Nat.gcd_dvd_left n d)) hg
      omega
  · rintro rfl; simp

/-- A product, or none if a number is too long. -/
def mulR (a b : Rt) : Option Rt := if a.n * b.n < LIM ∧ a.d * b.d < LIM then some (lowR (a.neg != b.neg) (a.n * b.n) (a.d * b.d)) else none
/-- The inverse. -/
def invR (a : Rt) : Rt := ⟨a.neg, a.d, a.n⟩
def divR (a b : Rt) : Option Rt := mulR a (invR b)
theorem mulR_ok {a b c : Rt} (h : mulR a b = some c) (ha : 0 < a.d) (hb : 0 < b.d) : c.ok := by
  unfold mulR at h
  split at h
  · rename_i hc
    cases h
    exact lowR_ok hc.1 hc.2 (Nat.mul_pos ha hb)
  · cases h
theorem mulR_sign {a b c : Rt} (h : mulR a b = some c) (ha : a.neg = false) (hb : b.neg = false) : c.neg = false := by
  unfold mulR at h
  split at h
  · cases h; simp [lowR, ha, hb]
  · cases h
/-- The least integer that is not less, of a number that is not negative; none beyond 2^62. -/
def ceilR (a : Rt) : Option Nat :=
  if a.n / a.d ≤ 4611686018427387904 then
    if a.n % a.d = 0 then some (a.n / a.d) else if a.n / a.d + 1 ≤ 4611686018427387904 then some (a.n / a.d + 1) else none
  else none
end Go.Proofs.YtoolanjbmbcaiaaGreatDoor.Bf
namespace Go.Proofs.YtoolanjbmbcaiaaGreatDoor
open Go.RowKit Bf

theorem bcell {W w1 : World} (hb : Below W.heap.size W w1) : (∀ b o, b < W.heap.size → w1.cell? ⟨b, o, none⟩ = W.cell? ⟨b, o, none⟩) ∧ (∀ b o, b < W.heap.size → w1.frozen? ⟨b, o, none⟩ = W.frozen? ⟨b, o, none⟩) :=
  ⟨fun b o h => hb.cell (p := ⟨b, o, none⟩) h, fun b o h => hb.frozen (p := ⟨b, o, none⟩) h⟩

/-- A ratio as a value. -/
def ratV (r : Rt) : Value := .agg #[.bool r.neg, .string (bs r.n), .string (bs r.d)]
theorem short_of {n : Nat} (h : n < LIM) : Short (bs n) := bs_short.2 h
theorem short_lt {s : ByteArray} (h : Short s) : bv s < LIM := bv_lt h.2

/-- The panic of package ratios. -/
def ratPanic (k : Int) : List PanicEntry := [{ v := .iface 103 (.agg #[.int .i64 k]), recovered := false }]

theorem must_ok (s : ByteArray) (w : World) : Calls Tryz.prog 63 #[.string s, .int .i64 0] w fun e w' => e = .returned (.string s) ∧ w = w' := by
  go_enter Tryz.func63, Tryz.ntmps63
  go_wp2
  go_ret
  exact ⟨rfl, rfl⟩
theorem must_panics (s : ByteArray) (k : Int) (hk : k ≠ 0) (w : World) : Calls Tryz.prog 63 #[.string s, .int .i64 k] w fun e w' => e = .panicked (ratPanic k) ∧ w = w' := by
  have t : (k != 0) = true := by rw [bne_iff_ne]; exact hk
  clear hk
  go_enter Tryz.func63, Tryz.ntmps63
  go_wp2
  exact ⟨rfl, rfl, rfl⟩
theorem reason_of (k : Int) (w : World) : Calls Tryz.prog 33 #[.iface 103 (.agg #[.int .i64 k])] w (Ret w (.int .i64 k)) := by
  have hta : ∀ W : World, (Instr.typeAssert (.iface 103 (.agg #[.int .i64 k])) 20 103 true).run Tryz.prog W = .ok (.tuple #[.agg #[.int .i64 k], .bool true]) W := fun W => by kernel_rfl
  go_enter Tryz.func33, Tryz.ntmps33
  go_wp2
  go_ret
  exact ⟨rfl, (Below.refl _ _).alloc (Nat.le_refl _) _⟩
theorem inverse_any (neg : Bool) (n d : ByteArray) (w : World) : Calls Tryz.prog 181 #[.agg #[.bool neg, .string n, .string d]] w (Ret w (.agg #[.bool neg, .string d, .string n])) := by
  go_enter Tryz.func181, Tryz.ntmps181
  go_wp2
  exact bodyPost_ret (v := .agg #[.bool neg, .string d, .string n]) (by simp [results, Tryz.results181, go_sem]) rfl ⟨rfl, ((Below.refl _ _).alloc (Nat.le_refl _) _).alloc (by simp) _⟩
theorem bs_empty {n : Nat} (h : n = 0) : bs n = ⟨#[]⟩ := by subst h; rfl
theorem bs_isEmpty (n : Nat) : (bs n).toList.isEmpty = (n == 0) := by
  rw [Lib.toList_data]
  show (benc n).isEmpty = _
  by_cases h : n = 0
  · subst h; rfl
  · have := mt benc_eq_nil.1 h
    rw [List.isEmpty_eq_false_iff.2 this]; simp [h]

set_option maxRecDepth 100000 in
set_option maxHeartbeats 1000000 in
theorem lowest_ok (neg : Bool) (n d : Nat) (w : World) (hn : n < LIM) (hd : d < LIM) (h0 : 0 < d) (hT : Tab w) :
    Calls Tryz.prog 35 #[.agg #[.bool neg, .string (bs n), .string (bs d)]] w (Ret w (ratV (lowR neg n d))) := by
  have hg : 0 < Nat.gcd n d := Nat.gcd_pos_of_pos_right n h0
  have hgl : Nat.gcd n d < LIM := Nat.lt_of_le_of_lt (Nat.gcd_le_right n h0) hd
  have HG := Lib.hid (fun W (hW : Tab W) => gcd_ok (bs n) (bs d) W (short_of hn) (short_of hd) hW)
  have HD1 := Lib.hid (fun W => div_ok (bs n) (bs (Nat.gcd n d)) W (short_of hn) (short_of hgl) (by rw [bv_bs]; omega))
  have HD2 := Lib.hid (fun W => div_ok (bs d) (bs (Nat.gcd n d)) W (short_of hd) (short_of hgl) (by rw [bv_bs]; omega))
  simp only [bv_bs] at HG HD1 HD2
  have HZ := Lib.hid (div_gcd_zero (n := n) h0)
  have HT := Lib.hid hT
  have HV : Hid (ratV (lowR neg n d) = .agg #[.bool (neg && n != 0), .string (bs (n / Nat.gcd n d)), .string (bs (d / Nat.gcd n d))]) := rfl
  have hem : (bs (n / Nat.gcd n d)).toList.isEmpty = (n == 0) := by
    rw [bs_isEmpty, Bool.eq_iff_iff]; simp [HZ.out]
  clear hT hn hd hgl
  generalize bs (n / Nat.gcd n d) = sn at *
  generalize bs (d / Nat.gcd n d) = sd at *
  generalize bs (Nat.gcd n d) = sg at *
  generalize bs n = xn at *
  generalize bs d = xd at *
  rw [HV.out, show (n != 0) = !(n == 0) from rfl]
  clear HV HZ
  generalize (n == 0) = z at *
  cases z <;> cases neg
  all_goals
    simp only [Bool.not_true, Bool.not_false, Bool.and_true, Bool.and_false]
    go_enter Tryz.func35, Tryz.ntmps35
    go_wp2_with fail
    refine (HG.out _ (HT.out.below (((Below.refl _ _).alloc (Nat.le_refl _) _).alloc (by simp) _))).mono ?_
    rintro e w1 ⟨rfl, hb1⟩
    obtain ⟨hc1, hf1⟩ := bcell hb1
    have hz1 : w.heap.size + 1 < w1.heap.size := by have := hb1.size; simp at this; omega
    have hy1 : w.heap.size < w1.heap.size := by omega
    have HB1 := Lib.hid ((((Below.refl w.heap.size w).alloc (Nat.le_refl _) _).alloc (by simp) _).trans (hb1.mono (by simp; omega)))
    clear hb1
    go_wp2_with fail
    refine (must_ok _ _).mono ?_
    rintro e w2 ⟨rfl, rfl⟩
    go_wp2_with fail
    refine (HD1.out _).mono ?_
    rintro e w2 ⟨rfl, hb2⟩
    obtain ⟨hc2, hf2⟩ := bcell hb2
    have hz2 : w.heap.size + 1 < w2.heap.size := by have := hb2.size; omega
    have hy2 : w.heap.size < w2.heap.size := by omega
    have HB2 := Lib.hid (HB1.out.trans (hb2.mono (by omega)))
    clear hb2
    go_wp2_with fail
    refine (must_ok _ _).mono ?_
    rintro e w3 ⟨rfl, rfl⟩
    go_wp2_with fail
    refine (HD2.out _).mono ?_
    rintro e w3 ⟨rfl, hb3⟩
    obtain ⟨hc3, hf3⟩ := bcell hb3
    have hz3 : w.heap.size + 1 < w3.heap.size := by have := hb3.size; omega
    have hy3 : w.heap.size < w3.heap.size := by omega
    have HB3 := Lib.hid (HB2.out.trans (hb3.mono (by omega)))
    clear hb3
    go_wp2_with fail
    refine (must_ok _ _).mono ?_
    rintro e w4 ⟨rfl, rfl⟩
    go_wp2
    refine bodyPost_ret (v := .agg #[_, .string sn, .string sd]) (by simp [results, Tryz.results35, go_sem, hc1, hc2, hc3, hz1, hz2]) rfl ⟨rfl, ?_⟩
    exact ((HB3.out.setCell (by simp) _).setCell (by simp) _).setCell (by simp) _
end Go.Proofs.YtoolanjbmbcaiaaGreatDoor
namespace Go.Proofs.YtoolanjbmbcaiaaGreatDoor
open Go.RowKit Bf

theorem chk1 (s : ByteArray) : chk (fun _ => s) 1 = 0 ↔ Short s := by
  constructor
  · intro h
    by_cases h1 : Nat' s
    · refine ⟨h1, ?_⟩
      rcases Nat.lt_or_ge 256 s.size with hl | hl
      · rw [chk_limit (j := 0) (fun _ _ => h1) (by omega) hl] at h; cases h
      · exact hl
    · rw [chk_nat (j := 0) (by omega) h1] at h; cases h
  · exact fun h => chk_ok fun _ _ => h

/-- A ratio is valid. -/
def RatS (neg : Bool) (n d : ByteArray) : Prop := Short n ∧ Short d ∧ bv d ≠ 0 ∧ Nat.gcd (bv n) (bv d) = 1 ∧ (neg = true → bv n ≠ 0)
theorem RatS.of {r : Rt} (h : r.ok) : RatS r.neg (bs r.n) (bs r.d) := by
  refine ⟨short_of h.1, short_of h.2.1, ?_, ?_, ?_⟩
  · rw [bv_bs]; have := h.2.2.1; omega
  · rw [bv_bs, bv_bs]; exact h.2.2.2.1
  · rw [bv_bs]; exact h.2.2.2.2
theorem RatS.to {neg : Bool} {n d : ByteArray} (h : RatS neg n d) : ∃ r : Rt, r.ok ∧ r.neg = neg ∧ bs r.n = n ∧ bs r.d = d :=
  ⟨⟨neg, bv n, bv d⟩, ⟨short_lt h.1, short_lt h.2.1, by have := h.2.2.1; show 0 < bv d; omega, h.2.2.2.1, h.2.2.2.2⟩, rfl, bs_bv h.1.1, bs_bv h.2.1.1⟩

open Classical in
/-- What Check returns. -/
noncomputable def rchk (neg : Bool) (n d : ByteArray) : Int := if RatS neg n d then 0 else 70
theorem rchk_ok {neg : Bool} {n d : ByteArray} (h : RatS neg n d) : rchk neg n d = 0 := if_pos h
theorem rchk_no {neg : Bool} {n d : ByteArray} (h : ¬ RatS neg n d) : rchk neg n d = 70 := if_neg h

theorem empty_of {s : ByteArray} (h : Nat' s) : s.toList.isEmpty = decide (bv s = 0) := by
  rw [← bs_bv h, bs_isEmpty, bv_bs, Bool.eq_iff_iff]; simp
theorem bs_one : bs 1 = ⟨#[1]⟩ := rfl

set_option maxRecDepth 100000 in
set_option maxHeartbeats 1000000 in
theorem rcheck_any (neg : Bool) (n d : ByteArray) (w : World) (hT : Tab w) :
    Calls Tryz.prog 16 #[.agg #[.bool neg, .string n, .string d]] w (Ret w (.int .i64 (rchk neg n d))) := by
  have HC1 := Lib.hid (fun W => check1 n W)
  have HC2 := Lib.hid (fun W => check1 d W)
  have HT := Lib.hid hT
  clear hT
  by_cases h1 : Short n
  · rw [(chk1 n).2 h1] at HC1
    by_cases h2 : Short d
    · rw [(chk1 d).2 h2] at HC2
      by_cases h3 : bv d = 0
      · have hv : rchk neg n d = 70 := rchk_no fun h => h.2.2.1 h3
        rw [hv]
        have te : d.toList.isEmpty = true := by rw [empty_of h2.1]; simp [h3]
        clear hv h1 h2 h3
        go_enter Tryz.func16, Tryz.ntmps16
        go_wp2_with fail
        refine (HC1.out _).mono ?_
        rintro e w1 ⟨rfl, hb1⟩
        obtain ⟨hc1, hf1⟩ := bcell hb1
        have hy1 : w.heap.size < w1.heap.size := by have := hb1.size; simp at this; omega
        have HB1 := Lib.hid (((Below.refl w.heap.size w).alloc (Nat.le_refl _) _).trans (hb1.mono (by simp)))
        clear hb1
        go_wp2_with fail
        refine (HC2.out _).mono ?_
        rintro e w2 ⟨rfl, hb2⟩
        obtain ⟨hc2, hf2⟩ := bcell hb2
        have hy2 : w.heap.size < w2.heap.size := by have := hb2.size; omega
        have HB2 := Lib.hid (HB1.out.trans (hb2.mono (by omega)))
        clear hb2
        go_wp2
        go_ret
        exact ⟨rfl, HB2.out⟩
      · have te : d.toList.isEmpty = false := by rw [empty_of h2.1]; simp [h3]
        have HG := Lib.hid (fun W (hW : Tab W) => gcd_ok n d W h1 h2 hW)
        have hval : (Nat.gcd (bv n) (bv d) ≠ 1 ∧ rchk neg n d = 70) ∨ (Nat.gcd (bv n) (bv d) = 1 ∧ ((neg = true ∧ bv n = 0 ∧ rchk neg n d = 70) ∨ (neg = true ∧ bv n ≠ 0 ∧ rchk neg n d = 0) ∨ (neg = false ∧ rchk neg n d = 0))) := by
          by_cases h4 : Nat.gcd (bv n) (bv d) = 1
          · refine .inr ⟨h4, ?_⟩
            cases neg with
            | false => exact .inr (.inr ⟨rfl, rchk_ok ⟨h1, h2, h3, h4, fun e => by cases e⟩⟩)
            | true =>
              by_cases h5 : bv n = 0
              · exact .inl ⟨rfl, h5, rchk_no fun h => h.2.2.2.2 rfl h5⟩
              · exact .inr (.inl ⟨rfl, h5, rchk_ok ⟨h1, h2, h3, h4, fun _ => h5⟩⟩)
          · exact .inl ⟨h4, rchk_no fun h => h4 h.2.2.2.1⟩
        have hen := empty_of h1.1
        have HVAL := Lib.hid hval
        generalize rchk neg n d = rv at *
        generalize bv n = vn at *
        generalize bv d = vd at *
        generalize Nat.gcd vn vd = g at *
        clear hval h1 h2 h3
        go_enter Tryz.func16, Tryz.ntmps16
        go_wp2_with fail
        refine (HC1.out _).mono ?_
        rintro e w1 ⟨rfl, hb1⟩
        obtain ⟨hc1, hf1⟩ := bcell hb1
        have hy1 : w.heap.size < w1.heap.size := by have := hb1.size; simp at this; omega
        have HB1 := Lib.hid (((Below.refl w.heap.size w).alloc (Nat.le_refl _) _).trans (hb1.mono (by simp)))
        clear hb1
        go_wp2_with fail
        refine (HC2.out _).mono ?_
        rintro e w2 ⟨rfl, hb2⟩
        obtain ⟨hc2, hf2⟩ := bcell hb2
        have hy2 : w.heap.size < w2.heap.size := by have := hb2.size; omega
        have HB2 := Lib.hid (HB1.out.trans (hb2.mono (by omega)))
        clear hb2
        go_wp2_with fail
        refine (HG.out _ (HT.out.below HB2.out)).mono ?_
        rintro e w3 ⟨rfl, hb3⟩
        obtain ⟨hc3, hf3⟩ := bcell hb3
        have hy3 : w.heap.size < w3.heap.size := by have := hb3.size; omega
        have HB3 := Lib.hid (HB2.out.trans (hb3.mono (by omega)))
        clear hb3
        rcases HVAL.out with ⟨hg, rfl⟩ | ⟨rfl, ⟨rfl, hn0, rfl⟩ | ⟨rfl, hn0, rfl⟩ | ⟨rfl, rfl⟩⟩
        · have tg : ¬ (bs g).toList = [1] := fun e => hg (benc_inj (by rw [Lib.toList_data] at e; exact e))
          generalize bs g = sg at *
          clear hen HVAL
          go_wp2
          go_ret
          exact ⟨rfl, HB3.out⟩
        · simp only [hn0, decide_true] at hen
          clear hn0 HVAL
          rw [bs_one]
          go_wp2
          go_ret
          exact ⟨rfl, HB3.out⟩
        · simp only [hn0, decide_false] at hen
          clear hn0 HVAL
          rw [bs_one]
          go_wp2
          go_ret
          exact ⟨rfl, HB3.out⟩
        · clear HVAL hen
          rw [bs_one]
          go_wp2
          go_ret
          exact ⟨rfl, HB3.out⟩
    · have hv : rchk neg n d = 70 := rchk_no fun h => h2 h.2.1
      rw [hv]
      have t2 : (chk (fun _ => d) 1 != 0) = true := by rw [bne_iff_ne]; exact fun e => h2 ((chk1 d).1 e)
      generalize chk (fun _ => d) 1 = cd at *
      clear hv h1 h2
      go_enter Tryz.func16, Tryz.ntmps16
      go_wp2_with fail
      refine (HC1.out _).mono ?_
      rintro e w1 ⟨rfl, hb1⟩
      obtain ⟨hc1, hf1⟩ := bcell hb1
      have hy1 : w.heap.size < w1.heap.size := by have := hb1.size; simp at this; omega
      have HB1 := Lib.hid (((Below.refl w.heap.size w).alloc (Nat.le_refl _) _).trans (hb1.mono (by simp)))
      clear hb1
      go_wp2_with fail
      refine (HC2.out _).mono ?_
      rintro e w2 ⟨rfl, hb2⟩
      obtain ⟨hc2, hf2⟩ := bcell hb2
      have HB2 := Lib.hid (HB1.out.trans (hb2.mono (by omega)))
      clear hb2
      go_wp2
      go_ret
      exact ⟨rfl, HB2.out⟩
  · have hv : rchk neg n d = 70 := rchk_no fun h => h1 h.1
    rw [hv]
    have t1 : (chk (fun _ => n) 1 != 0) = true := by rw [bne_iff_ne]; exact fun e => h1 ((chk1 n).1 e)
    generalize chk (fun _ => n) 1 = cn at *
    clear hv h1
    go_enter Tryz.func16, Tryz.ntmps16
    go_wp2_with fail
    refine (HC1.out _).mono ?_
    rintro e w1 ⟨rfl, hb1⟩
    have HB1 := Lib.hid (((Below.refl w.heap.size w).alloc (Nat.le_refl _) _).trans (hb1.mono (by simp)))
    clear hb1
    go_wp2
    go_ret
    exact ⟨rfl, HB1.out⟩
end Go.Proofs.YtoolanjbmbcaiaaGreatDoor
namespace Go.Proofs.YtoolanjbmbcaiaaGreatDoor
open Go.RowKit Bf

/-- Two numbers lie in two blocks from the heap's end on; the third block is theirs too. -/
def NumS (w : World) (an bn : Bool) (xn xd yn yd : ByteArray) (w' : World) : Prop :=
  w'.cell? ⟨w.heap.size, 0, none⟩ = some (.bool an) ∧ w'.cell? ⟨w.heap.size, 1, none⟩ = some (.string xn) ∧ w'.cell? ⟨w.heap.size, 2, none⟩ = some (.string xd) ∧
  w'.cell? ⟨w.heap.size + 1, 0, none⟩ = some (.bool bn) ∧ w'.cell? ⟨w.heap.size + 1, 1, none⟩ = some (.string yn) ∧ w'.cell? ⟨w.heap.size + 1, 2, none⟩ = some (.string yd) ∧
  w.heap.size + 3 ≤ w'.heap.size ∧ Below w.heap.size w w'
/-- The third block: a number's cells, none frozen. -/
def NumR (w : World) (w' : World) : Prop := ∃ a b c, w'.heap[w.heap.size + 1 + 1]? = some (.cells #[a, b, c] 82 (0, 0))
section
variable {w W W' : World} {an bn : Bool} {xn xd yn yd : ByteArray}
theorem NumS.next (h : NumS w an bn xn xd yn yd W) (hb : Below W.heap.size W W') : NumS w an bn xn xd yn yd W' := by
  obtain ⟨h1, h2, h3, h4, h5, h6, h7, h8⟩ := h
  refine ⟨?_, ?_, ?_, ?_, ?_, ?_, Nat.le_trans h7 hb.size, h8.trans (hb.mono (by omega))⟩
  · exact (hb.cell (p := ⟨w.heap.size, 0, none⟩) (by simp; omega)).trans h1
  · exact (hb.cell (p := ⟨w.heap.size, 1, none⟩) (by simp; omega)).trans h2
  · exact (hb.cell (p := ⟨w.heap.size, 2, none⟩) (by simp; omega)).trans h3
  · exact (hb.cell (p := ⟨w.heap.size + 1, 0, none⟩) (by simp; omega)).trans h4
  · exact (hb.cell (p := ⟨w.heap.size + 1, 1, none⟩) (by simp; omega)).trans h5
  · exact (hb.cell (p := ⟨w.heap.size + 1, 2, none⟩) (by simp; omega)).trans h6
theorem NumS.set (h : NumS w an bn xn xd yn yd W) (j : Nat) (u : Value) : NumS w an bn xn xd yn yd (W.setCell ⟨w.heap.size + 1 + 1, j, none⟩ u) := by
  obtain ⟨h1, h2, h3, h4, h5, h6, h7, h8⟩ := h
  have e : ∀ b o, b ≠ w.heap.size + 1 + 1 → (W.setCell ⟨w.heap.size + 1 + 1, j, none⟩ u).cell? ⟨b, o, none⟩ = W.cell? ⟨b, o, none⟩ := fun b o hb => World.cell?_of_block (w := W) (Below.heap_setCell _ _ _ _ hb)
  refine ⟨(e _ _ (by omega)).trans h1, (e _ _ (by omega)).trans h2, (e _ _ (by omega)).trans h3, (e _ _ (by omega)).trans h4, (e _ _ (by omega)).trans h5, (e _ _ (by omega)).trans h6, by simpa [World.setCell] using h7, h8.setCell (by simp; omega) _⟩
theorem NumR.next (h : NumR w W) (hs : NumS w an bn xn xd yn yd W) (hb : Below W.heap.size W W') : NumR w W' := by
  obtain ⟨a, b, c, h⟩ := h
  exact ⟨a, b, c, (hb.block _ (by have := hs.2.2.2.2.2.2.1; omega)).trans h⟩
theorem NumR.cells (h : NumR w W) : (∃ a, W.cell? ⟨w.heap.size + 1 + 1, 0, none⟩ = some a) ∧ (∃ a, W.cell? ⟨w.heap.size + 1 + 1, 1, none⟩ = some a) ∧ (∃ a, W.cell? ⟨w.heap.size + 1 + 1, 2, none⟩ = some a) ∧
    W.frozen? ⟨w.heap.size + 1 + 1, 0, none⟩ = false ∧ W.frozen? ⟨w.heap.size + 1 + 1, 1, none⟩ = false ∧ W.frozen? ⟨w.heap.size + 1 + 1, 2, none⟩ = false := by
  obtain ⟨a, b, c, h⟩ := h
  refine ⟨⟨a, ?_⟩, ⟨b, ?_⟩, ⟨c, ?_⟩, ?_, ?_, ?_⟩ <;> simp [World.cell?, World.frozen?, h]
end

set_option maxRecDepth 100000 in
set_option maxHeartbeats 2000000 in
theorem times_ok (an bn : Bool) (x y x' y' : Nat) (w : World) (hx : x < LIM) (hy : y < LIM) (hx' : x' < LIM) (hy' : y' < LIM) (h1 : x * x' < LIM) (h2 : y * y' < LIM) :
    Calls Tryz.prog 179 #[.agg #[.bool an, .string (bs x), .string (bs y)], .agg #[.bool bn, .string (bs x'), .string (bs y')]] w (Ret w (.agg #[.bool (an != bn), .string (bs (x * x')), .string (bs (y * y'))])) := by
  have e1 : shortV (x * x') = .tuple #[.string (bs (x * x')), .int .i64 0] := if_pos h1
  have e2 : shortV (y * y') = .tuple #[.string (bs (y * y')), .int .i64 0] := if_pos h2
  have HM1 := Lib.hid (fun W => mul_ok (bs x) (bs x') W (short_of hx) (short_of hx'))
  have HM2 := Lib.hid (fun W => mul_ok (bs y) (bs y') W (short_of hy) (short_of hy'))
  simp only [bv_bs] at HM1 HM2
  rw [e1] at HM1
  rw [e2] at HM2
  clear e1 e2 hx hy hx' hy' h1 h2
  generalize bs (x * x') = sx at *
  generalize bs (y * y') = sy at *
  generalize bs x = xn at *
  generalize bs y = xd at *
  generalize bs x' = yn at *
  generalize bs y' = yd at *
  go_enter Tryz.func179, Tryz.ntmps179
  go_wp2
  obtain ⟨W0, hW0⟩ : ∃ W0, ((w.alloc (.cells #[.bool an, .string xn, .string xd] 82)).alloc (.cells #[.bool bn, .string yn, .string yd] 82)).alloc (.cells #[.bool false, .string ⟨#[]⟩, .string ⟨#[]⟩] 82) = W0 := ⟨_, rfl⟩
  have S0 : NumS w an bn xn xd yn yd W0.drew := by
    rw [← hW0]
    refine ⟨by simp [go_sem], by simp [go_sem], by simp [go_sem], by simp [go_sem], by simp [go_sem], by simp [go_sem], by simp [go_sem], ?_⟩
    exact ((((Below.refl w.heap.size w).alloc (Nat.le_refl _) _).alloc (by simp) _).alloc (by simp; omega) _).drew
  have R0 : NumR w W0.drew := by
    refine ⟨.bool false, .string ⟨#[]⟩, .string ⟨#[]⟩, ?_⟩
    rw [← hW0]
    have e := World.alloc_heap_new ((w.alloc (.cells #[.bool an, .string xn, .string xd] 82)).alloc (.cells #[.bool bn, .string yn, .string yd] 82)) (.cells #[.bool false, .string ⟨#[]⟩, .string ⟨#[]⟩] 82)
    rwa [World.size_alloc, World.size_alloc] at e
  rw [hW0]
  clear hW0
  -- <times>
  refine wp_region_held_drew (S := (fun w' => w'.cell? ⟨w.heap.size, 0, none⟩ = some (.bool an) ∧ w'.cell? ⟨w.heap.size, 1, none⟩ = some (.string xn) ∧ w'.cell? ⟨w.heap.size, 2, none⟩ = some (.string xd) ∧ w'.cell? ⟨w.heap.size + 1, 0, none⟩ = some (.bool bn) ∧ w'.cell? ⟨w.heap.size + 1, 1, none⟩ = some (.string yn) ∧ w'.cell? ⟨w.heap.size + 1, 2, none⟩ = some (.string yd) ∧ w.heap.size + 3 ≤ w'.heap.size ∧ Below w.heap.size w w')) (by kernel_rfl) ?_ (fun hHeld => ?_)
  · exact S0
  refine rp_take (i := 0) (v := ?_) rfl (by kernel_rfl) (by kernel_rfl) (by kernel_rfl) (by rfl) (by assumption) ?_ (by exact fun _ _ _ h => h) ?_
  rotate_left
  · (intro w hSw; (try dsimp only at hSw); go_simp; try (with_reducible rfl))
  (try simp only [Act.put, List.setIfInBounds_toArray, List.set_cons_zero, List.set_cons_succ])
  refine rp_take (i := 1) (v := ?_) rfl (by kernel_rfl) (by kernel_rfl) (by kernel_rfl) (by rfl) (by assumption) ?_ (by exact fun _ _ _ h => h) ?_
  rotate_left
  · (intro w hSw; (try dsimp only at hSw); go_simp; try (with_reducible rfl))
  (try simp only [Act.put, List.setIfInBounds_toArray, List.set_cons_zero, List.set_cons_succ])
  refine rp_take (i := 2) (v := ?_) rfl (by kernel_rfl) (by kernel_rfl) (by kernel_rfl) (by rfl) (by assumption) ?_ (by exact fun _ _ _ h => h) ?_
  rotate_left
  · (intro w hSw; (try dsimp only at hSw); go_simp; try (with_reducible rfl))
  (try simp only [Act.put, List.setIfInBounds_toArray, List.set_cons_zero, List.set_cons_succ])
  refine rp_take (i := 3) (v := ?_) rfl (by kernel_rfl) (by kernel_rfl) (by kernel_rfl) (by rfl) (by assumption) ?_ (by exact fun _ _ _ h => h) ?_
  rotate_left
  · (intro w hSw; (try dsimp only at hSw); go_simp; try (with_reducible rfl))
  (try simp only [Act.put, List.setIfInBounds_toArray, List.set_cons_zero, List.set_cons_succ])
  refine rp_take (i := 4) (v := ?_) rfl (by kernel_rfl) (by kernel_rfl) (by kernel_rfl) (by rfl) (by assumption) ?_ (by exact fun _ _ _ h => h) ?_
  rotate_left
  · (intro w hSw; (try dsimp only at hSw); go_simp; try (with_reducible rfl))
  (try simp only [Act.put, List.setIfInBounds_toArray, List.set_cons_zero, List.set_cons_succ])
  refine rp_take (i := 5) (v := ?_) rfl (by kernel_rfl) (by kernel_rfl) (by kernel_rfl) (by rfl) (by assumption) ?_ (by exact fun _ _ _ h => h) ?_
  rotate_left
  · (intro w hSw; (try dsimp only at hSw); go_simp; try (with_reducible rfl))
  (try simp only [Act.put, List.setIfInBounds_toArray, List.set_cons_zero, List.set_cons_succ])
  refine rp_take (i := 6) (v := ?_) rfl (by kernel_rfl) (by kernel_rfl) (by kernel_rfl) (by rfl) (by assumption) ?_ (by exact fun _ _ _ h => h) ?_
  rotate_left
  · (intro w hSw; (try dsimp only at hSw); go_simp; try (with_reducible rfl))
  (try simp only [Act.put, List.setIfInBounds_toArray, List.set_cons_zero, List.set_cons_succ])
  refine rp_take (i := 7) (v := ?_) rfl (by kernel_rfl) (by kernel_rfl) (by kernel_rfl) (by rfl) (by assumption) ?_ (by exact fun _ _ _ h => h) ?_
  rotate_left
  · (intro w hSw; (try dsimp only at hSw); go_simp; try (with_reducible rfl))
  (try simp only [Act.put, List.setIfInBounds_toArray, List.set_cons_zero, List.set_cons_succ])
  refine rp_take (i := 8) (v := ?_) rfl (by kernel_rfl) (by kernel_rfl) (by kernel_rfl) (by rfl) (by assumption) ?_ (by exact fun _ _ _ h => h) ?_
  rotate_left
  · (intro w hSw; (try dsimp only at hSw); go_simp; try (with_reducible rfl))
  (try simp only [Act.put, List.setIfInBounds_toArray, List.set_cons_zero, List.set_cons_succ])
  refine rp_take (i := 13) (v := ?_) rfl (by kernel_rfl) (by kernel_rfl) (by kernel_rfl) (by rfl) (by assumption) ?_ (by exact fun _ _ _ h => h) ?_
  rotate_left
  · (intro w hSw; (try dsimp only at hSw); go_simp; try (with_reducible rfl))
  (try simp only [Act.put, List.setIfInBounds_toArray, List.set_cons_zero, List.set_cons_succ])
  refine rp_take (i := 14) (v := ?_) rfl (by kernel_rfl) (by kernel_rfl) (by kernel_rfl) (by rfl) (by assumption) ?_ (by exact fun _ _ _ h => h) ?_
  rotate_left
  · (intro w hSw; (try dsimp only at hSw); go_simp; try (with_reducible rfl))
  (try simp only [Act.put, List.setIfInBounds_toArray, List.set_cons_zero, List.set_cons_succ])
  refine rp_take (i := 15) (v := ?_) rfl (by kernel_rfl) (by kernel_rfl) (by kernel_rfl) (by rfl) (by assumption) ?_ (by exact fun _ _ _ h => h) ?_
  rotate_left
  · (intro w hSw; (try dsimp only at hSw); go_simp; try (with_reducible rfl))
  (try simp only [Act.put, List.setIfInBounds_toArray, List.set_cons_zero, List.set_cons_succ])
  refine rp_take (i := 16) (v := ?_) rfl (by kernel_rfl) (by kernel_rfl) (by kernel_rfl) (by rfl) (by assumption) ?_ (by exact fun _ _ _ h => h) ?_
  rotate_left
  · (intro w hSw; (try dsimp only at hSw); go_simp; try (with_reducible rfl))
  (try simp only [Act.put, List.setIfInBounds_toArray, List.set_cons_zero, List.set_cons_succ])
  refine wpAnyH_ready (rs := [9]) (by kernel_rfl) (by simp) ?_
  refine rh_cons (i := 9) rfl (fun K hK => ?_) ?_
  · go_simp
    refine (HM1.out _).mono ?_
    rintro e w1 ⟨rfl, hb1⟩
    have R1 := NumR.next (by assumption) hHeld hb1
    have S1 := NumS.next hHeld hb1
    go_wp2_with fail
    refine hK.out _ _ ?_ (fun hHeld => ?_)
    · (try dsimp only)
      exact S1
    clear hK K
    (try simp only [Act.put, List.setIfInBounds_toArray, List.set_cons_zero, List.set_cons_succ])
    refine rp_take (i := 10) (v := ?_) rfl (by kernel_rfl) (by kernel_rfl) (by kernel_rfl) (by rfl) (by assumption) ?_ (by exact fun _ _ _ h => h) ?_
    rotate_left
    · (intro w hSw; (try dsimp only at hSw); go_simp; try (with_reducible rfl))
    (try simp only [Act.put, List.setIfInBounds_toArray, List.set_cons_zero, List.set_cons_succ])
    refine rp_take (i := 11) (v := ?_) rfl (by kernel_rfl) (by kernel_rfl) (by kernel_rfl) (by rfl) (by assumption) ?_ (by exact fun _ _ _ h => h) ?_
    rotate_left
    · (intro w hSw; (try dsimp only at hSw); go_simp; try (with_reducible rfl))
    (try simp only [Act.put, List.setIfInBounds_toArray, List.set_cons_zero, List.set_cons_succ])
    refine wpAnyH_ready (rs := [12]) (by kernel_rfl) (by simp) ?_
    refine rh_cons (i := 12) rfl (fun K hK => ?_) ?_
    · go_simp
      refine (must_ok _ _).mono ?_
      rintro e w1 ⟨rfl, rfl⟩
      have S1 := hHeld
      go_wp2_with fail
      refine hK.out _ _ ?_ (fun hHeld => ?_)
      · (try dsimp only)
        exact S1
      clear hK K
      (try simp only [Act.put, List.setIfInBounds_toArray, List.set_cons_zero, List.set_cons_succ])
      refine wpAnyH_ready (rs := [17]) (by kernel_rfl) (by simp) ?_
      refine rh_cons (i := 17) rfl (fun K hK => ?_) ?_
      · go_simp
        refine (HM2.out _).mono ?_
        rintro e w1 ⟨rfl, hb1⟩
        have R1 := NumR.next (by assumption) hHeld hb1
        have S1 := NumS.next hHeld hb1
        go_wp2_with fail
        refine hK.out _ _ ?_ (fun hHeld => ?_)
        · (try dsimp only)
          exact S1
        clear hK K
        (try simp only [Act.put, List.setIfInBounds_toArray, List.set_cons_zero, List.set_cons_succ])
        refine rp_take (i := 18) (v := ?_) rfl (by kernel_rfl) (by kernel_rfl) (by kernel_rfl) (by rfl) (by assumption) ?_ (by exact fun _ _ _ h => h) ?_
        rotate_left
        · (intro w hSw; (try dsimp only at hSw); go_simp; try (with_reducible rfl))
        (try simp only [Act.put, List.setIfInBounds_toArray, List.set_cons_zero, List.set_cons_succ])
        refine rp_take (i := 19) (v := ?_) rfl (by kernel_rfl) (by kernel_rfl) (by kernel_rfl) (by rfl) (by assumption) ?_ (by exact fun _ _ _ h => h) ?_
        rotate_left
        · (intro w hSw; (try dsimp only at hSw); go_simp; try (with_reducible rfl))
        (try simp only [Act.put, List.setIfInBounds_toArray, List.set_cons_zero, List.set_cons_succ])
        refine wpAnyH_ready (rs := [20]) (by kernel_rfl) (by simp) ?_
        refine rh_cons (i := 20) rfl (fun K hK => ?_) ?_
        · go_simp
          refine (must_ok _ _).mono ?_
          rintro e w1 ⟨rfl, rfl⟩
          have S1 := hHeld
          go_wp2_with fail
          refine hK.out _ _ ?_ (fun hHeld => ?_)
          · (try dsimp only)
            exact S1
          clear hK K
          (try simp only [Act.put, List.setIfInBounds_toArray, List.set_cons_zero, List.set_cons_succ])
          refine rp_take (i := 21) (v := ?_) rfl (by kernel_rfl) (by kernel_rfl) (by kernel_rfl) (by rfl) (by assumption) ?_ (by exact fun _ _ _ h => h) ?_
          rotate_left
          · (intro w hSw; (try dsimp only at hSw); go_simp; try (with_reducible rfl))
          (try simp only [Act.put, List.setIfInBounds_toArray, List.set_cons_zero, List.set_cons_succ])
          refine wpAnyH_ready (rs := [22]) (by kernel_rfl) (by simp) ?_
          refine rh_cons (i := 22) rfl (fun K hK => ?_) ?_
          · go_simp
            obtain ⟨⟨r0, q0⟩, ⟨r1, q1⟩, ⟨r2, q2⟩, f0, f1, f2⟩ := NumR.cells (by assumption)
            go_simp
            have S1 := NumS.set (NumS.set (NumS.set hHeld 0 (.bool (an != bn))) 1 (.string sx)) 2 (.string sy)
            refine hK.out _ _ ?_ (fun hHeld => ?_)
            · (try dsimp only)
              exact S1
            clear hK K
            (try simp only [Act.put, List.setIfInBounds_toArray, List.set_cons_zero, List.set_cons_succ])
            refine wpAnyH_done (by kernel_rfl) ?_ _
            go_wp2
            exact bodyPost_ret (v := .agg #[.bool (an != bn), .string sx, .string sy]) (by simp [results, Tryz.results179, go_sem, q0, q1, q2]; cases an <;> cases bn <;> rfl) rfl ⟨rfl, S1.2.2.2.2.2.2.2⟩
          exact AllReadyH.nil
        exact AllReadyH.nil
      exact AllReadyH.nil
    exact AllReadyH.nil
  exact AllReadyH.nil
  -- </times>

set_option maxRecDepth 100000 in
set_option maxHeartbeats 2000000 in
theorem times_no1 (an bn : Bool) (x y x' y' : Nat) (w : World) (hx : x < LIM) (hy : y < LIM) (hx' : x' < LIM) (hy' : y' < LIM) (h1 : ¬ x * x' < LIM) :
    Calls Tryz.prog 179 #[.agg #[.bool an, .string (bs x), .string (bs y)], .agg #[.bool bn, .string (bs x'), .string (bs y')]] w fun e w' => e = .panicked (ratPanic 2) ∧ Below w.heap.size w w' := by
  have e1 : shortV (x * x') = .tuple #[.string ⟨#[]⟩, .int .i64 2] := if_neg h1

  have HM1 := Lib.hid (fun W => mul_ok (bs x) (bs x') W (short_of hx) (short_of hx'))
  have HM2 := Lib.hid (fun W => mul_ok (bs y) (bs y') W (short_of hy) (short_of hy'))
  simp only [bv_bs] at HM1 HM2
  rw [e1] at HM1
  clear e1 hx hy hx' hy' h1
  generalize bs x = xn at *
  generalize bs y = xd at *
  generalize bs x' = yn at *
  generalize bs y' = yd at *
  go_enter Tryz.func179, Tryz.ntmps179
  go_wp2
  obtain ⟨W0, hW0⟩ : ∃ W0, ((w.alloc (.cells #[.bool an, .string xn, .string xd] 82)).alloc (.cells #[.bool bn, .string yn, .string yd] 82)).alloc (.cells #[.bool false, .string ⟨#[]⟩, .string ⟨#[]⟩] 82) = W0 := ⟨_, rfl⟩
  have S0 : NumS w an bn xn xd yn yd W0.drew := by
    rw [← hW0]
    refine ⟨by simp [go_sem], by simp [go_sem], by simp [go_sem], by simp [go_sem], by simp [go_sem], by simp [go_sem], by simp [go_sem], ?_⟩
    exact ((((Below.refl w.heap.size w).alloc (Nat.le_refl _) _).alloc (by simp) _).alloc (by simp; omega) _).drew
  have R0 : NumR w W0.drew := by
    refine ⟨.bool false, .string ⟨#[]⟩, .string ⟨#[]⟩, ?_⟩
    rw [← hW0]
    have e := World.alloc_heap_new ((w.alloc (.cells #[.bool an, .string xn, .string xd] 82)).alloc (.cells #[.bool bn, .string yn, .string yd] 82)) (.cells #[.bool false, .string ⟨#[]⟩, .string ⟨#[]⟩] 82)
    rwa [World.size_alloc, World.size_alloc] at e
  rw [hW0]
  clear hW0
  -- <times1>
  refine wp_region_held_drew (S := (fun w' => w'.cell? ⟨w.heap.size, 0, none⟩ = some (.bool an) ∧ w'.cell? ⟨w.heap.size, 1, none⟩ = some (.string xn) ∧ w'.cell? ⟨w.heap.size, 2, none⟩ = some (.string xd) ∧ w'.cell? ⟨w.heap.size + 1, 0, none⟩ = some (.bool bn) ∧ w'.cell? ⟨w.heap.size + 1, 1, none⟩ = some (.string yn) ∧ w'.cell? ⟨w.heap.size + 1, 2, none⟩ = some (.string yd) ∧ w.heap.size + 3 ≤ w'.heap.size ∧ Below w.heap.size w w')) (by kernel_rfl) ?_ (fun hHeld => ?_)
  · exact S0
  refine rp_take (i := 0) (v := ?_) rfl (by kernel_rfl) (by kernel_rfl) (by kernel_rfl) (by rfl) (by assumption) ?_ (by exact fun _ _ _ h => h) ?_
  rotate_left
  · (intro w hSw; (try dsimp only at hSw); go_simp; try (with_reducible rfl))
  (try simp only [Act.put, List.setIfInBounds_toArray, List.set_cons_zero, List.set_cons_succ])
  refine rp_take (i := 1) (v := ?_) rfl (by kernel_rfl) (by kernel_rfl) (by kernel_rfl) (by rfl) (by assumption) ?_ (by exact fun _ _ _ h => h) ?_
  rotate_left
  · (intro w hSw; (try dsimp only at hSw); go_simp; try (with_reducible rfl))
  (try simp only [Act.put, List.setIfInBounds_toArray, List.set_cons_zero, List.set_cons_succ])
  refine rp_take (i := 2) (v := ?_) rfl (by kernel_rfl) (by kernel_rfl) (by kernel_rfl) (by rfl) (by assumption) ?_ (by exact fun _ _ _ h => h) ?_
  rotate_left
  · (intro w hSw; (try dsimp only at hSw); go_simp; try (with_reducible rfl))
  (try simp only [Act.put, List.setIfInBounds_toArray, List.set_cons_zero, List.set_cons_succ])
  refine rp_take (i := 3) (v := ?_) rfl (by kernel_rfl) (by kernel_rfl) (by kernel_rfl) (by rfl) (by assumption) ?_ (by exact fun _ _ _ h => h) ?_
  rotate_left
  · (intro w hSw; (try dsimp only at hSw); go_simp; try (with_reducible rfl))
  (try simp only [Act.put, List.setIfInBounds_toArray, List.set_cons_zero, List.set_cons_succ])
  refine rp_take (i := 4) (v := ?_) rfl (by kernel_rfl) (by kernel_rfl) (by kernel_rfl) (by rfl) (by assumption) ?_ (by exact fun _ _ _ h => h) ?_
  rotate_left
  · (intro w hSw; (try dsimp only at hSw); go_simp; try (with_reducible rfl))
  (try simp only [Act.put, List.setIfInBounds_toArray, List.set_cons_zero, List.set_cons_succ])
  refine rp_take (i := 5) (v := ?_) rfl (by kernel_rfl) (by kernel_rfl) (by kernel_rfl) (by rfl) (by assumption) ?_ (by exact fun _ _ _ h => h) ?_
  rotate_left
  · (intro w hSw; (try dsimp only at hSw); go_simp; try (with_reducible rfl))
  (try simp only [Act.put, List.setIfInBounds_toArray, List.set_cons_zero, List.set_cons_succ])
  refine rp_take (i := 6) (v := ?_) rfl (by kernel_rfl) (by kernel_rfl) (by kernel_rfl) (by rfl) (by assumption) ?_ (by exact fun _ _ _ h => h) ?_
  rotate_left
  · (intro w hSw; (try dsimp only at hSw); go_simp; try (with_reducible rfl))
  (try simp only [Act.put, List.setIfInBounds_toArray, List.set_cons_zero, List.set_cons_succ])
  refine rp_take (i := 7) (v := ?_) rfl (by kernel_rfl) (by kernel_rfl) (by kernel_rfl) (by rfl) (by assumption) ?_ (by exact fun _ _ _ h => h) ?_
  rotate_left
  · (intro w hSw; (try dsimp only at hSw); go_simp; try (with_reducible rfl))
  (try simp only [Act.put, List.setIfInBounds_toArray, List.set_cons_zero, List.set_cons_succ])
  refine rp_take (i := 8) (v := ?_) rfl (by kernel_rfl) (by kernel_rfl) (by kernel_rfl) (by rfl) (by assumption) ?_ (by exact fun _ _ _ h => h) ?_
  rotate_left
  · (intro w hSw; (try dsimp only at hSw); go_simp; try (with_reducible rfl))
  (try simp only [Act.put, List.setIfInBounds_toArray, List.set_cons_zero, List.set_cons_succ])
  refine rp_take (i := 13) (v := ?_) rfl (by kernel_rfl) (by kernel_rfl) (by kernel_rfl) (by rfl) (by assumption) ?_ (by exact fun _ _ _ h => h) ?_
  rotate_left
  · (intro w hSw; (try dsimp only at hSw); go_simp; try (with_reducible rfl))
  (try simp only [Act.put, List.setIfInBounds_toArray, List.set_cons_zero, List.set_cons_succ])
  refine rp_take (i := 14) (v := ?_) rfl (by kernel_rfl) (by kernel_rfl) (by kernel_rfl) (by rfl) (by assumption) ?_ (by exact fun _ _ _ h => h) ?_
  rotate_left
  · (intro w hSw; (try dsimp only at hSw); go_simp; try (with_reducible rfl))
  (try simp only [Act.put, List.setIfInBounds_toArray, List.set_cons_zero, List.set_cons_succ])
  refine rp_take (i := 15) (v := ?_) rfl (by kernel_rfl) (by kernel_rfl) (by kernel_rfl) (by rfl) (by assumption) ?_ (by exact fun _ _ _ h => h) ?_
  rotate_left
  · (intro w hSw; (try dsimp only at hSw); go_simp; try (with_reducible rfl))
  (try simp only [Act.put, List.setIfInBounds_toArray, List.set_cons_zero, List.set_cons_succ])
  refine rp_take (i := 16) (v := ?_) rfl (by kernel_rfl) (by kernel_rfl) (by kernel_rfl) (by rfl) (by assumption) ?_ (by exact fun _ _ _ h => h) ?_
  rotate_left
  · (intro w hSw; (try dsimp only at hSw); go_simp; try (with_reducible rfl))
  (try simp only [Act.put, List.setIfInBounds_toArray, List.set_cons_zero, List.set_cons_succ])
  refine wpAnyH_ready (rs := [9]) (by kernel_rfl) (by simp) ?_
  refine rh_cons (i := 9) rfl (fun K hK => ?_) ?_
  · go_simp
    refine (HM1.out _).mono ?_
    rintro e w1 ⟨rfl, hb1⟩
    have R1 := NumR.next (by assumption) hHeld hb1
    have S1 := NumS.next hHeld hb1
    go_wp2_with fail
    refine hK.out _ _ ?_ (fun hHeld => ?_)
    · (try dsimp only)
      exact S1
    clear hK K
    (try simp only [Act.put, List.setIfInBounds_toArray, List.set_cons_zero, List.set_cons_succ])
    refine rp_take (i := 10) (v := ?_) rfl (by kernel_rfl) (by kernel_rfl) (by kernel_rfl) (by rfl) (by assumption) ?_ (by exact fun _ _ _ h => h) ?_
    rotate_left
    · (intro w hSw; (try dsimp only at hSw); go_simp; try (with_reducible rfl))
    (try simp only [Act.put, List.setIfInBounds_toArray, List.set_cons_zero, List.set_cons_succ])
    refine rp_take (i := 11) (v := ?_) rfl (by kernel_rfl) (by kernel_rfl) (by kernel_rfl) (by rfl) (by assumption) ?_ (by exact fun _ _ _ h => h) ?_
    rotate_left
    · (intro w hSw; (try dsimp only at hSw); go_simp; try (with_reducible rfl))
    (try simp only [Act.put, List.setIfInBounds_toArray, List.set_cons_zero, List.set_cons_succ])
    refine wpAnyH_ready (rs := [12]) (by kernel_rfl) (by simp) ?_
    refine rh_cons (i := 12) rfl (fun K hK => ?_) ?_
    · go_simp
      refine (must_panics _ 2 (by omega) _).mono ?_
      rintro e w1 ⟨rfl, rfl⟩
      exact ⟨rfl, rfl, hHeld.2.2.2.2.2.2.2⟩
    exact AllReadyH.nil
  exact AllReadyH.nil
  -- </times1>

set_option maxRecDepth 100000 in
set_option maxHeartbeats 2000000 in
theorem times_no2 (an bn : Bool) (x y x' y' : Nat) (w : World) (hx : x < LIM) (hy : y < LIM) (hx' : x' < LIM) (hy' : y' < LIM) (h1 : x * x' < LIM) (h2 : ¬ y * y' < LIM) :
    Calls Tryz.prog 179 #[.agg #[.bool an, .string (bs x), .string (bs y)], .agg #[.bool bn, .string (bs x'), .string (bs y')]] w fun e w' => e = .panicked (ratPanic 2) ∧ Below w.heap.size w w' := by
  have e1 : shortV (x * x') = .tuple #[.string (bs (x * x')), .int .i64 0] := if_pos h1
  have e2 : shortV (y * y') = .tuple #[.string ⟨#[]⟩, .int .i64 2] := if_neg h2
  have HM1 := Lib.hid (fun W => mul_ok (bs x) (bs x') W (short_of hx) (short_of hx'))
  have HM2 := Lib.hid (fun W => mul_ok (bs y) (bs y') W (short_of hy) (short_of hy'))
  simp only [bv_bs] at HM1 HM2
  rw [e1] at HM1
  rw [e2] at HM2
  clear e1 e2 hx hy hx' hy' h1 h2
  generalize bs (x * x') = sx at *
  generalize bs x = xn at *
  generalize bs y = xd at *
  generalize bs x' = yn at *
  generalize bs y' = yd at *
  go_enter Tryz.func179, Tryz.ntmps179
  go_wp2
  obtain ⟨W0, hW0⟩ : ∃ W0, ((w.alloc (.cells #[.bool an, .string xn, .string xd] 82)).alloc (.cells #[.bool bn, .string yn, .string yd] 82)).alloc (.cells #[.bool false, .string ⟨#[]⟩, .string ⟨#[]⟩] 82) = W0 := ⟨_, rfl⟩
  have S0 : NumS w an bn xn xd yn yd W0.drew := by
    rw [← hW0]
    refine ⟨by simp [go_sem], by simp [go_sem], by simp [go_sem], by simp [go_sem], by simp [go_sem], by simp [go_sem], by simp [go_sem], ?_⟩
    exact ((((Below.refl w.heap.size w).alloc (Nat.le_refl _) _).alloc (by simp) _).alloc (by simp; omega) _).drew
  have R0 : NumR w W0.drew := by
    refine ⟨.bool false, .string ⟨#[]⟩, .string ⟨#[]⟩, ?_⟩
    rw [← hW0]
    have e := World.alloc_heap_new ((w.alloc (.cells #[.bool an, .string xn, .string xd] 82)).alloc (.cells #[.bool bn, .string yn, .string yd] 82)) (.cells #[.bool false, .string ⟨#[]⟩, .string ⟨#[]⟩] 82)
    rwa [World.size_alloc, World.size_alloc] at e
  rw [hW0]
  clear hW0
  -- <times2>
  refine wp_region_held_drew (S := (fun w' => w'.cell? ⟨w.heap.size, 0, none⟩ = some (.bool an) ∧ w'.cell? ⟨w.heap.size, 1, none⟩ = some (.string xn) ∧ w'.cell? ⟨w.heap.size, 2, none⟩ = some (.string xd) ∧ w'.cell? ⟨w.heap.size + 1, 0, none⟩ = some (.bool bn) ∧ w'.cell? ⟨w.heap.size + 1, 1, none⟩ = some (.string yn) ∧ w'.cell? ⟨w.heap.size + 1, 2, none⟩ = some (.string yd) ∧ w.heap.size + 3 ≤ w'.heap.size ∧ Below w.heap.size w w')) (by kernel_rfl) ?_ (fun hHeld => ?_)
  · exact S0
  refine rp_take (i := 0) (v := ?_) rfl (by kernel_rfl) (by kernel_rfl) (by kernel_rfl) (by rfl) (by assumption) ?_ (by exact fun _ _ _ h => h) ?_
  rotate_left
  · (intro w hSw; (try dsimp only at hSw); go_simp; try (with_reducible rfl))
  (try simp only [Act.put, List.setIfInBounds_toArray, List.set_cons_zero, List.set_cons_succ])
  refine rp_take (i := 1) (v := ?_) rfl (by kernel_rfl) (by kernel_rfl) (by kernel_rfl) (by rfl) (by assumption) ?_ (by exact fun _ _ _ h => h) ?_
  rotate_left
  · (intro w hSw; (try dsimp only at hSw); go_simp; try (with_reducible rfl))
  (try simp only [Act.put, List.setIfInBounds_toArray, List.set_cons_zero, List.set_cons_succ])
  refine rp_take (i := 2) (v := ?_) rfl (by kernel_rfl) (by kernel_rfl) (by kernel_rfl) (by rfl) (by assumption) ?_ (by exact fun _ _ _ h => h) ?_
  rotate_left
  · (intro w hSw; (try dsimp only at hSw); go_simp; try (with_reducible rfl))
  (try simp only [Act.put, List.setIfInBounds_toArray, List.set_cons_zero, List.set_cons_succ])
  refine rp_take (i := 3) (v := ?_) rfl (by kernel_rfl) (by kernel_rfl) (by kernel_rfl) (by rfl) (by assumption) ?_ (by exact fun _ _ _ h => h) ?_
  rotate_left
  · (intro w hSw; (try dsimp only at hSw); go_simp; try (with_reducible rfl))
  (try simp only [Act.put, List.setIfInBounds_toArray, List.set_cons_zero, List.set_cons_succ])
  refine rp_take (i := 4) (v := ?_) rfl (by kernel_rfl) (by kernel_rfl) (by kernel_rfl) (by rfl) (by assumption) ?_ (by exact fun _ _ _ h => h) ?_
  rotate_left
  · (intro w hSw; (try dsimp only at hSw); go_simp; try (with_reducible rfl))
  (try simp only [Act.put, List.setIfInBounds_toArray, List.set_cons_zero, List.set_cons_succ])
  refine rp_take (i := 5) (v := ?_) rfl (by kernel_rfl) (by kernel_rfl) (by kernel_rfl) (by rfl) (by assumption) ?_ (by exact fun _ _ _ h => h) ?_
  rotate_left
  · (intro w hSw; (try dsimp only at hSw); go_simp; try (with_reducible rfl))
  (try simp only [Act.put, List.setIfInBounds_toArray, List.set_cons_zero, List.set_cons_succ])
  refine rp_take (i := 6) (v := ?_) rfl (by kernel_rfl) (by kernel_rfl) (by kernel_rfl) (by rfl) (by assumption) ?_ (by exact fun _ _ _ h => h) ?_
  rotate_left
  · (intro w hSw; (try dsimp only at hSw); go_simp; try (with_reducible rfl))
  (try simp only [Act.put, List.setIfInBounds_toArray, List.set_cons_zero, List.set_cons_succ])
  refine rp_take (i := 7) (v := ?_) rfl (by kernel_rfl) (by kernel_rfl) (by kernel_rfl) (by rfl) (by assumption) ?_ (by exact fun _ _ _ h => h) ?_
  rotate_left
  · (intro w hSw; (try dsimp only at hSw); go_simp; try (with_reducible rfl))
  (try simp only [Act.put, List.setIfInBounds_toArray, List.set_cons_zero, List.set_cons_succ])
  refine rp_take (i := 8) (v := ?_) rfl (by kernel_rfl) (by kernel_rfl) (by kernel_rfl) (by rfl) (by assumption) ?_ (by exact fun _ _ _ h => h) ?_
  rotate_left
  · (intro w hSw; (try dsimp only at hSw); go_simp; try (with_reducible rfl))
  (try simp only [Act.put, List.setIfInBounds_toArray, List.set_cons_zero, List.set_cons_succ])
  refine rp_take (i := 13) (v := ?_) rfl (by kernel_rfl) (by kernel_rfl) (by kernel_rfl) (by rfl) (by assumption) ?_ (by exact fun _ _ _ h => h) ?_
  rotate_left
  · (intro w hSw; (try dsimp only at hSw); go_simp; try (with_reducible rfl))
  (try simp only [Act.put, List.setIfInBounds_toArray, List.set_cons_zero, List.set_cons_succ])
  refine rp_take (i := 14) (v := ?_) rfl (by kernel_rfl) (by kernel_rfl) (by kernel_rfl) (by rfl) (by assumption) ?_ (by exact fun _ _ _ h => h) ?_
  rotate_left
  · (intro w hSw; (try dsimp only at hSw); go_simp; try (with_reducible rfl))
  (try simp only [Act.put, List.setIfInBounds_toArray, List.set_cons_zero, List.set_cons_succ])
  refine rp_take (i := 15) (v := ?_) rfl (by kernel_rfl) (by kernel_rfl) (by kernel_rfl) (by rfl) (by assumption) ?_ (by exact fun _ _ _ h => h) ?_
  rotate_left
  · (intro w hSw; (try dsimp only at hSw); go_simp; try (with_reducible rfl))
  (try simp only [Act.put, List.setIfInBounds_toArray, List.set_cons_zero, List.set_cons_succ])
  refine rp_take (i := 16) (v := ?_) rfl (by kernel_rfl) (by kernel_rfl) (by kernel_rfl) (by rfl) (by assumption) ?_ (by exact fun _ _ _ h => h) ?_
  rotate_left
  · (intro w hSw; (try dsimp only at hSw); go_simp; try (with_reducible rfl))
  (try simp only [Act.put, List.setIfInBounds_toArray, List.set_cons_zero, List.set_cons_succ])
  refine wpAnyH_ready (rs := [9]) (by kernel_rfl) (by simp) ?_
  refine rh_cons (i := 9) rfl (fun K hK => ?_) ?_
  · go_simp
    refine (HM1.out _).mono ?_
    rintro e w1 ⟨rfl, hb1⟩
    have R1 := NumR.next (by assumption) hHeld hb1
    have S1 := NumS.next hHeld hb1
    go_wp2_with fail
    refine hK.out _ _ ?_ (fun hHeld => ?_)
    · (try dsimp only)
      exact S1
    clear hK K
    (try simp only [Act.put, List.setIfInBounds_toArray, List.set_cons_zero, List.set_cons_succ])
    refine rp_take (i := 10) (v := ?_) rfl (by kernel_rfl) (by kernel_rfl) (by kernel_rfl) (by rfl) (by assumption) ?_ (by exact fun _ _ _ h => h) ?_
    rotate_left
    · (intro w hSw; (try dsimp only at hSw); go_simp; try (with_reducible rfl))
    (try simp only [Act.put, List.setIfInBounds_toArray, List.set_cons_zero, List.set_cons_succ])
    refine rp_take (i := 11) (v := ?_) rfl (by kernel_rfl) (by kernel_rfl) (by kernel_rfl) (by rfl) (by assumption) ?_ (by exact fun _ _ _ h => h) ?_
    rotate_left
    · (intro w hSw; (try dsimp only at hSw); go_simp; try (with_reducible rfl))
    (try simp only [Act.put, List.setIfInBounds_toArray, List.set_cons_zero, List.set_cons_succ])
    refine wpAnyH_ready (rs := [12]) (by kernel_rfl) (by simp) ?_
    refine rh_cons (i := 12) rfl (fun K hK => ?_) ?_
    · go_simp
      refine (must_ok _ _).mono ?_
      rintro e w1 ⟨rfl, rfl⟩
      have S1 := hHeld
      go_wp2_with fail
      refine hK.out _ _ ?_ (fun hHeld => ?_)
      · (try dsimp only)
        exact S1
      clear hK K
      (try simp only [Act.put, List.setIfInBounds_toArray, List.set_cons_zero, List.set_cons_succ])
      refine wpAnyH_ready (rs := [17]) (by kernel_rfl) (by simp) ?_
      refine rh_cons (i := 17) rfl (fun K hK => ?_) ?_
      · go_simp
        refine (HM2.out _).mono ?_
        rintro e w1 ⟨rfl, hb1⟩
        have R1 := NumR.next (by assumption) hHeld hb1
        have S1 := NumS.next hHeld hb1
        go_wp2_with fail
        refine hK.out _ _ ?_ (fun hHeld => ?_)
        · (try dsimp only)
          exact S1
        clear hK K
        (try simp only [Act.put, List.setIfInBounds_toArray, List.set_cons_zero, List.set_cons_succ])
        refine rp_take (i := 18) (v := ?_) rfl (by kernel_rfl) (by kernel_rfl) (by kernel_rfl) (by rfl) (by assumption) ?_ (by exact fun _ _ _ h => h) ?_
        rotate_left
        · (intro w hSw; (try dsimp only at hSw); go_simp; try (with_reducible rfl))
        (try simp only [Act.put, List.setIfInBounds_toArray, List.set_cons_zero, List.set_cons_succ])
        refine rp_take (i := 19) (v := ?_) rfl (by kernel_rfl) (by kernel_rfl) (by kernel_rfl) (by rfl) (by assumption) ?_ (by exact fun _ _ _ h => h) ?_
        rotate_left
        · (intro w hSw; (try dsimp only at hSw); go_simp; try (with_reducible rfl))
        (try simp only [Act.put, List.setIfInBounds_toArray, List.set_cons_zero, List.set_cons_succ])
        refine wpAnyH_ready (rs := [20]) (by kernel_rfl) (by simp) ?_
        refine rh_cons (i := 20) rfl (fun K hK => ?_) ?_
        · go_simp
          refine (must_panics _ 2 (by omega) _).mono ?_
          rintro e w1 ⟨rfl, rfl⟩
          exact ⟨rfl, rfl, hHeld.2.2.2.2.2.2.2⟩
        exact AllReadyH.nil
      exact AllReadyH.nil
    exact AllReadyH.nil
  exact AllReadyH.nil
  -- </times2>

theorem times_no (an bn : Bool) (x y x' y' : Nat) (w : World) (hx : x < LIM) (hy : y < LIM) (hx' : x' < LIM) (hy' : y' < LIM) (h : ¬ (x * x' < LIM ∧ y * y' < LIM)) :
    Calls Tryz.prog 179 #[.agg #[.bool an, .string (bs x), .string (bs y)], .agg #[.bool bn, .string (bs x'), .string (bs y')]] w fun e w' => e = .panicked (ratPanic 2) ∧ Below w.heap.size w w' := by
  by_cases h1 : x * x' < LIM
  · exact times_no2 an bn x y x' y' w hx hy hx' hy' h1 (fun h2 => h ⟨h1, h2⟩)
  · exact times_no1 an bn x y x' y' w hx hy hx' hy' h1
end Go.Proofs.YtoolanjbmbcaiaaGreatDoor
namespace Go.Proofs.YtoolanjbmbcaiaaGreatDoor
open Go.RowKit Bf

theorem set_push (a : Array Obj) (x y : Obj) : (a.push x).setIfInBounds a.size y = a.push y := by
  apply Array.ext
  · simp
  · intro i h1 h2
    have h3 : i < a.size + 1 := by simpa using h2
    rw [Array.getElem_setIfInBounds (by simpa using h2), Array.getElem_push]
    by_cases e : i < a.size
    · rw [if_neg (by omega), Array.getElem_push]; simp [e]
    · have e2 : a.size = i := by omega
      subst e2; simp
theorem run_insert_new {P : Program} (mty kt et : TypeId) (k : IntKind) (hm : P.underlying mty = some (.map kt et)) (hk : P.underlying kt = some (.int k)) (w : World) (es : Array MapEntry) (clock : Nat) (x : Int) (v : Value)
    (hf : Instr.findNow (.int k) (.int k x) es.toList 0 = some none) :
    (Instr.mapUpdate mty (.map (some w.heap.size)) (.int k x) v).run P (w.alloc (.map es clock)) = .ok () (w.alloc (.map (es.push { key := .int k x, val := v, born := clock }) (clock + 1))) := by
  have hb : (w.alloc (.map es clock)).heap[w.heap.size]? = some (.map es clock) := World.alloc_heap_new w _
  have hc : (Instr.checkKey false 10000 kt (.int k x)).run P (w.alloc (.map es clock)) = .ok () (w.alloc (.map es clock)) := MapKept.run_checkKey (k := .int k x) hk (by simp [MapKept.IsKey]) false 9999
  simp [Instr.mapUpdate, run_underlying hm, MapKept.run_getObj_map hb, hc, MapKept.run_findKey hk hf, MapKept.run_setObj_map _ hb, Result.andThen]
  exact congrArg (fun h => ({ w with heap := h } : World)) (set_push _ _ _)
theorem run_lookup_found {P : Program} (mty kt et : TypeId) (k : IntKind) (hm : P.underlying mty = some (.map kt et)) (hk : P.underlying kt = some (.int k)) (w : World) (r : Nat) (es : Array MapEntry) (clock i : Nat) (x : Int) (v : Value)
    (hb : w.heap[r]? = some (.map es clock)) (hf : Instr.findNow (.int k) (.int k x) es.toList 0 = some (some (i, v))) :
    (Instr.lookup mty (.map (some r)) (.int k x) false).run P w = .ok v w := by
  have hc : ∀ b, (Instr.checkKey b 10000 kt (.int k x)).run P w = .ok () w := fun b => MapKept.run_checkKey (k := .int k x) hk (by simp [MapKept.IsKey]) b 9999
  simp [Instr.lookup, run_underlying hm, MapKept.run_getObj_map hb, hc, MapKept.run_findKey hk hf, Result.andThen]

/-- The map of operations. -/
def opsMap : Obj := .map #[{ key := .int .u8 43, val := .func (.func 174) #[] #[], born := 0 }, { key := .int .u8 45, val := .func (.func 176) #[] #[], born := 1 }, { key := .int .u8 42, val := .func (.func 178) #[] #[], born := 2 }, { key := .int .u8 47, val := .func (.func 180) #[] #[], born := 3 }] 4

set_option maxRecDepth 100000 in
theorem operations_any (w : World) : Calls Tryz.prog 145 #[] w fun e w' => e = .returned (.map (some w.heap.size)) ∧ w' = w.alloc opsMap := by
  have hmm := @run_makeMap Tryz.prog
  have hi := fun es clock x v => run_insert_new (P := Tryz.prog) 208 5 207 .u8 Tryz.underlying208 Tryz.underlying5 w es clock x v
  have h1 := hi #[] 0 43 (.func (.func 174) #[] #[]) rfl
  have h2 := hi #[{ key := .int .u8 43, val := .func (.func 174) #[] #[], born := 0 }] 1 45 (.func (.func 176) #[] #[]) rfl
  have h3 := hi #[{ key := .int .u8 43, val := .func (.func 174) #[] #[], born := 0 }, { key := .int .u8 45, val := .func (.func 176) #[] #[], born := 1 }] 2 42 (.func (.func 178) #[] #[]) rfl
  have h4 := hi #[{ key := .int .u8 43, val := .func (.func 174) #[] #[], born := 0 }, { key := .int .u8 45, val := .func (.func 176) #[] #[], born := 1 }, { key := .int .u8 42, val := .func (.func 178) #[] #[], born := 2 }] 3 47 (.func (.func 180) #[] #[]) rfl
  clear hi
  go_enter Tryz.func145, Tryz.ntmps145
  go_wp2
  go_ret
  exact ⟨rfl, rfl⟩

set_option maxRecDepth 100000 in
set_option maxHeartbeats 1000000 in
theorem opsMul_ok (an bn : Bool) (x y x' y' : Nat) (w : World) (hx : x < LIM) (hy : y < LIM) (hx' : x' < LIM) (hy' : y' < LIM) (h1 : x * x' < LIM) (h2 : y * y' < LIM) :
    Calls Tryz.prog 178 #[.agg #[.bool an, .string (bs x), .string (bs y)], .agg #[.bool bn, .string (bs x'), .string (bs y')]] w (Ret w (.agg #[.bool (an != bn), .string (bs (x * x')), .string (bs (y * y'))])) := by
  have HM := Lib.hid (fun W => times_ok an bn x y x' y' W hx hy hx' hy' h1 h2)
  clear hx hy hx' hy' h1 h2
  go_enter Tryz.func178, Tryz.ntmps178
  go_wp2_with fail
  refine (HM.out _).mono ?_
  rintro e w1 ⟨rfl, hb1⟩
  obtain ⟨hc1, hf1⟩ := bcell hb1
  have hz1 : w.heap.size + 1 + 1 < w1.heap.size := by have := hb1.size; simp at this; omega
  have HB1 := Lib.hid (((((Below.refl w.heap.size w).alloc (Nat.le_refl _) _).alloc (by simp) _).alloc (by simp; omega) _).trans (hb1.mono (by simp; omega)))
  clear hb1
  go_wp2
  refine bodyPost_ret (v := .agg #[.bool (an != bn), .string (bs (x * x')), .string (bs (y * y'))]) (by simp [results, Tryz.results178, go_sem, hc1]) rfl ⟨rfl, ?_⟩
  exact ((HB1.out.setCell (by simp; omega) _).setCell (by simp; omega) _).setCell (by simp; omega) _
set_option maxRecDepth 100000 in
set_option maxHeartbeats 1000000 in
theorem opsMul_no (an bn : Bool) (x y x' y' : Nat) (w : World) (hx : x < LIM) (hy : y < LIM) (hx' : x' < LIM) (hy' : y' < LIM) (h : ¬ (x * x' < LIM ∧ y * y' < LIM)) :
    Calls Tryz.prog 178 #[.agg #[.bool an, .string (bs x), .string (bs y)], .agg #[.bool bn, .string (bs x'), .string (bs y')]] w fun e w' => e = .panicked (ratPanic 2) ∧ Below w.heap.size w w' := by
  have HM := Lib.hid (fun W => times_no an bn x y x' y' W hx hy hx' hy' h)
  clear hx hy hx' hy' h
  go_enter Tryz.func178, Tryz.ntmps178
  go_wp2_with fail
  refine (HM.out _).mono ?_
  rintro e w1 ⟨rfl, hb1⟩
  have HB1 := Lib.hid (((((Below.refl w.heap.size w).alloc (Nat.le_refl _) _).alloc (by simp) _).alloc (by simp; omega) _).trans (hb1.mono (by simp; omega)))
  clear hb1
  exact ⟨rfl, rfl, HB1.out⟩

set_option maxRecDepth 100000 in
set_option maxHeartbeats 1000000 in
theorem opsDiv_ok (an bn : Bool) (x y x' y' : Nat) (w : World) (hx : x < LIM) (hy : y < LIM) (hx' : x' < LIM) (hy' : y' < LIM) (h1 : x * y' < LIM) (h2 : y * x' < LIM) :
    Calls Tryz.prog 180 #[.agg #[.bool an, .string (bs x), .string (bs y)], .agg #[.bool bn, .string (bs x'), .string (bs y')]] w (Ret w (.agg #[.bool (an != bn), .string (bs (x * y')), .string (bs (y * x'))])) := by
  have HM := Lib.hid (fun W => times_ok an bn x y y' x' W hx hy hy' hx' h1 h2)
  clear hx hy hx' hy' h1 h2
  generalize bs (x * y') = sx at *
  generalize bs (y * x') = sy at *
  generalize bs x = xn at *
  generalize bs y = xd at *
  generalize bs x' = yn at *
  generalize bs y' = yd at *
  go_enter Tryz.func180, Tryz.ntmps180
  go_wp2
  obtain ⟨W0, hW0⟩ : ∃ W0, ((w.alloc (.cells #[.bool an, .string xn, .string xd] 82)).alloc (.cells #[.bool bn, .string yn, .string yd] 82)).alloc (.cells #[.bool false, .string ⟨#[]⟩, .string ⟨#[]⟩] 82) = W0 := ⟨_, rfl⟩
  have S0 : NumS w an bn xn xd yn yd W0.drew := by
    rw [← hW0]
    refine ⟨by simp [go_sem], by simp [go_sem], by simp [go_sem], by simp [go_sem], by simp [go_sem], by simp [go_sem], by simp [go_sem], ?_⟩
    exact ((((Below.refl w.heap.size w).alloc (Nat.le_refl _) _).alloc (by simp) _).alloc (by simp; omega) _).drew
  have R0 : NumR w W0.drew := by
    refine ⟨.bool false, .string ⟨#[]⟩, .string ⟨#[]⟩, ?_⟩
    rw [← hW0]
    have e := World.alloc_heap_new ((w.alloc (.cells #[.bool an, .string xn, .string xd] 82)).alloc (.cells #[.bool bn, .string yn, .string yd] 82)) (.cells #[.bool false, .string ⟨#[]⟩, .string ⟨#[]⟩] 82)
    rwa [World.size_alloc, World.size_alloc] at e
  rw [hW0]
  clear hW0
  -- <div>
  refine wp_region_held_drew (S := (fun w' => w'.cell? ⟨w.heap.size, 0, none⟩ = some (.bool an) ∧ w'.cell? ⟨w.heap.size, 1, none⟩ = some (.string xn) ∧ w'.cell? ⟨w.heap.size, 2, none⟩ = some (.string xd) ∧ w'.cell? ⟨w.heap.size + 1, 0, none⟩ = some (.bool bn) ∧ w'.cell? ⟨w.heap.size + 1, 1, none⟩ = some (.string yn) ∧ w'.cell? ⟨w.heap.size + 1, 2, none⟩ = some (.string yd) ∧ w.heap.size + 3 ≤ w'.heap.size ∧ Below w.heap.size w w')) (by kernel_rfl) ?_ (fun hHeld => ?_)
  · exact S0
  refine rp_take (i := 0) (v := ?_) rfl (by kernel_rfl) (by kernel_rfl) (by kernel_rfl) (by rfl) (by assumption) ?_ (by exact fun _ _ _ h => h) ?_
  rotate_left
  · (intro w hSw; (try dsimp only at hSw); go_simp; try (with_reducible rfl))
  (try simp only [Act.put, List.setIfInBounds_toArray, List.set_cons_zero, List.set_cons_succ])
  refine rp_take (i := 1) (v := ?_) rfl (by kernel_rfl) (by kernel_rfl) (by kernel_rfl) (by rfl) (by assumption) ?_ (by exact fun _ _ _ h => h) ?_
  rotate_left
  · (intro w hSw; (try dsimp only at hSw); go_simp; try (with_reducible rfl))
  (try simp only [Act.put, List.setIfInBounds_toArray, List.set_cons_zero, List.set_cons_succ])
  refine wpAnyH_ready (rs := [2]) (by kernel_rfl) (by simp) ?_
  refine rh_cons (i := 2) rfl (fun K hK => ?_) ?_
  · go_simp
    refine (inverse_any _ _ _ _).mono ?_
    rintro e w1 ⟨rfl, hb1⟩
    have R1 := NumR.next (by assumption) hHeld hb1
    have S1 := NumS.next hHeld hb1
    go_wp2_with fail
    refine hK.out _ _ ?_ (fun hHeld => ?_)
    · (try dsimp only)
      exact S1
    clear hK K
    (try simp only [Act.put, List.setIfInBounds_toArray, List.set_cons_zero, List.set_cons_succ])
    refine wpAnyH_ready (rs := [3]) (by kernel_rfl) (by simp) ?_
    refine rh_cons (i := 3) rfl (fun K hK => ?_) ?_
    · go_simp
      refine (HM.out _).mono ?_
      rintro e w1 ⟨rfl, hb1⟩
      have R1 := NumR.next (by assumption) hHeld hb1
      have S1 := NumS.next hHeld hb1
      go_wp2_with fail
      refine hK.out _ _ ?_ (fun hHeld => ?_)
      · (try dsimp only)
        exact S1
      clear hK K
      (try simp only [Act.put, List.setIfInBounds_toArray, List.set_cons_zero, List.set_cons_succ])
      refine wpAnyH_ready (rs := [4]) (by kernel_rfl) (by simp) ?_
      refine rh_cons (i := 4) rfl (fun K hK => ?_) ?_
      · go_simp
        obtain ⟨⟨r0, q0⟩, ⟨r1, q1⟩, ⟨r2, q2⟩, f0, f1, f2⟩ := NumR.cells (by assumption)
        go_simp
        have S1 := NumS.set (NumS.set (NumS.set hHeld 0 (.bool (an != bn))) 1 (.string sx)) 2 (.string sy)
        refine hK.out _ _ ?_ (fun hHeld => ?_)
        · (try dsimp only)
          exact S1
        clear hK K
        (try simp only [Act.put, List.setIfInBounds_toArray, List.set_cons_zero, List.set_cons_succ])
        refine wpAnyH_done (by kernel_rfl) ?_ _
        go_wp2
        exact bodyPost_ret (v := .agg #[.bool (an != bn), .string sx, .string sy]) (by simp [results, Tryz.results180, go_sem, q0, q1, q2]) rfl ⟨rfl, S1.2.2.2.2.2.2.2⟩
      exact AllReadyH.nil
    exact AllReadyH.nil
  exact AllReadyH.nil
  -- </div>
set_option maxRecDepth 100000 in
set_option maxHeartbeats 1000000 in
theorem opsDiv_no (an bn : Bool) (x y x' y' : Nat) (w : World) (hx : x < LIM) (hy : y < LIM) (hx' : x' < LIM) (hy' : y' < LIM) (h : ¬ (x * y' < LIM ∧ y * x' < LIM)) :
    Calls Tryz.prog 180 #[.agg #[.bool an, .string (bs x), .string (bs y)], .agg #[.bool bn, .string (bs x'), .string (bs y')]] w fun e w' => e = .panicked (ratPanic 2) ∧ Below w.heap.size w w' := by
  have HM := Lib.hid (fun W => times_no an bn x y y' x' W hx hy hy' hx' h)
  clear hx hy hx' hy' h
  generalize bs x = xn at *
  generalize bs y = xd at *
  generalize bs x' = yn at *
  generalize bs y' = yd at *
  go_enter Tryz.func180, Tryz.ntmps180
  go_wp2
  obtain ⟨W0, hW0⟩ : ∃ W0, ((w.alloc (.cells #[.bool an, .string xn, .string xd] 82)).alloc (.cells #[.bool bn, .string yn, .string yd] 82)).alloc (.cells #[.bool false, .string ⟨#[]⟩, .string ⟨#[]⟩] 82) = W0 := ⟨_, rfl⟩
  have S0 : NumS w an bn xn xd yn yd W0.drew := by
    rw [← hW0]
    refine ⟨by simp [go_sem], by simp [go_sem], by simp [go_sem], by simp [go_sem], by simp [go_sem], by simp [go_sem], by simp [go_sem], ?_⟩
    exact ((((Below.refl w.heap.size w).alloc (Nat.le_refl _) _).alloc (by simp) _).alloc (by simp; omega) _).drew
  rw [hW0]
  clear hW0
  -- <divno>
  refine wp_region_held_drew (S := (fun w' => w'.cell? ⟨w.heap.size, 0, none⟩ = some (.bool an) ∧ w'.cell? ⟨w.heap.size, 1, none⟩ = some (.string xn) ∧ w'.cell? ⟨w.heap.size, 2, none⟩ = some (.string xd) ∧ w'.cell? ⟨w.heap.size + 1, 0, none⟩ = some (.bool bn) ∧ w'.cell? ⟨w.heap.size + 1, 1, none⟩ = some (.string yn) ∧ w'.cell? ⟨w.heap.size + 1, 2, none⟩ = some (.string yd) ∧ w.heap.size + 3 ≤ w'.heap.size ∧ Below w.heap.size w w')) (by kernel_rfl) ?_ (fun hHeld => ?_)
  · exact S0
  refine rp_take (i := 0) (v := ?_) rfl (by kernel_rfl) (by kernel_rfl) (by kernel_rfl) (by rfl) (by assumption) ?_ (by exact fun _ _ _ h => h) ?_
  rotate_left
  · (intro w hSw; (try dsimp only at hSw); go_simp; try (with_reducible rfl))
  (try simp only [Act.put, List.setIfInBounds_toArray, List.set_cons_zero, List.set_cons_succ])
  refine rp_take (i := 1) (v := ?_) rfl (by kernel_rfl) (by kernel_rfl) (by kernel_rfl) (by rfl) (by assumption) ?_ (by exact fun _ _ _ h => h) ?_
  rotate_left
  · (intro w hSw; (try dsimp only at hSw); go_simp; try (with_reducible rfl))
  (try simp only [Act.put, List.setIfInBounds_toArray, List.set_cons_zero, List.set_cons_succ])
  refine wpAnyH_ready (rs := [2]) (by kernel_rfl) (by simp) ?_
  refine rh_cons (i := 2) rfl (fun K hK => ?_) ?_
  · go_simp
    refine (inverse_any _ _ _ _).mono ?_
    rintro e w1 ⟨rfl, hb1⟩
    have S1 := NumS.next hHeld hb1
    go_wp2_with fail
    refine hK.out _ _ ?_ (fun hHeld => ?_)
    · (try dsimp only)
      exact S1
    clear hK K
    (try simp only [Act.put, List.setIfInBounds_toArray, List.set_cons_zero, List.set_cons_succ])
    refine wpAnyH_ready (rs := [3]) (by kernel_rfl) (by simp) ?_
    refine rh_cons (i := 3) rfl (fun K hK => ?_) ?_
    · go_simp
      refine (HM.out _).mono ?_
      rintro e w1 ⟨rfl, hb1⟩
      exact ⟨rfl, rfl, (NumS.next hHeld hb1).2.2.2.2.2.2.2⟩
    exact AllReadyH.nil
  exact AllReadyH.nil
  -- </divno>
end Go.Proofs.YtoolanjbmbcaiaaGreatDoor
namespace Go.Proofs.YtoolanjbmbcaiaaGreatDoor
open Go.RowKit Bf

theorem cellAt3 {w : World} {b : Nat} {cs : Array Value} {t : TypeId} (h : w.heap[b]? = some (.cells cs t (0, 0))) (i : Nat) (v : Value) (hv : cs[i]? = some v) : w.cell? ⟨b, i, none⟩ = some v ∧ w.frozen? ⟨b, i, none⟩ = false := by
  simp [World.cell?, World.frozen?, h, hv]

set_option maxRecDepth 100000 in
set_option maxHeartbeats 1000000 in
theorem catch_panic (br be : Nat) (k : Int) (a0 a1 a2 a3 : Value) (w : World) (hr : w.heap[br]? = some (.cells #[a0, a1, a2] 25 (0, 0))) (he : w.heap[be]? = some (.cells #[a3] 31 (0, 0))) (hne : br ≠ be) :
    CallsD Tryz.prog 144 #[.pointer (some ⟨br, 0, none⟩), .pointer (some ⟨be, 0, none⟩)] (.panicking (ratPanic k)) w fun e u' w' =>
      e = .returned (.tuple #[]) ∧ u' = .panicking [{ v := .iface 103 (.agg #[.int .i64 k]), recovered := true }] ∧ ∃ w1, Below w.heap.size w w1 ∧ w' = (((w1.setCell ⟨br, 0, none⟩ (.bool false)).setCell ⟨br, 1, none⟩ (.string ⟨#[]⟩)).setCell ⟨br, 2, none⟩ (.string ⟨#[]⟩)).setCell ⟨be, 0, none⟩ (.int .i64 k) := by
  refine callsD_of_wpS Tryz.func144 rfl fun c₀ cs hu => ?_
  unfold ratPanic at hu
  apply wpS_seq
  apply wpS_region
  simp [wpOpsS, go_sem, recoverD, hu, Tryz.ntmps144, Exit.thenS]
  refine wpS_of_wp ?_
  simp only [Array.replicate_succ, Array.replicate_zero, List.push_toArray, List.append_toArray, List.nil_append, List.cons_append, List.setIfInBounds_toArray, List.set_cons_zero, List.set_cons_succ]
  go_wp2_with fail
  refine (reason_of k _).mono ?_
  rintro e w1 ⟨rfl, hb1⟩
  have hr1 := (hb1.block br (Array.getElem?_eq_some_iff.1 hr).1).trans hr
  have he1 := (hb1.block be (Array.getElem?_eq_some_iff.1 he).1).trans he
  have HB1 := Lib.hid hb1
  obtain ⟨q0, f0⟩ := cellAt3 hr1 0 a0 rfl
  obtain ⟨q1, f1⟩ := cellAt3 hr1 1 a1 rfl
  obtain ⟨q2, f2⟩ := cellAt3 hr1 2 a2 rfl
  obtain ⟨q3, f3⟩ := cellAt3 he1 0 a3 rfl
  have hne' : ¬ be = br := fun e => hne e.symm
  clear hr1 he1 hb1 hr he hu
  go_wp2
  simp [bodyPostS, results, Tryz.results144]
  exact ⟨w1, HB1.out, rfl⟩

theorem catch_idle (br be : Nat) (w : World) :
    CallsD Tryz.prog 144 #[.pointer (some ⟨br, 0, none⟩), .pointer (some ⟨be, 0, none⟩)] .returning w fun e u' w' => e = .returned (.tuple #[]) ∧ u' = .returning ∧ w' = w := by
  refine callsD_of_wpS Tryz.func144 rfl fun c₀ cs hu => ?_
  apply wpS_seq
  apply wpS_region
  simp [wpOpsS, go_sem, recoverD, hu, Tryz.ntmps144, Exit.thenS]
  refine wpS_of_wp ?_
  simp only [Array.replicate_succ, Array.replicate_zero, List.push_toArray, List.append_toArray, List.nil_append, List.cons_append, List.setIfInBounds_toArray, List.set_cons_zero, List.set_cons_succ]
  go_wp2
  cases c₀
  simp_all [bodyPostS, results, Tryz.results144]

/-- A post that at a panic asks of the frame two slots and the deferred calls alone. -/
def PanQ (Q : Exit → Act → World → Prop) (i j : Nat) (x y : Value) (D : List Deferred) (G : List PanicEntry → World → Prop) : Exit → Act → World → Prop
  | .panic c, a, w => a.defers = D ∧ a.tmps.getD i undef = x ∧ a.tmps.getD j undef = y ∧ G c w
  | e, a, w => Q e a w
theorem put_getD (a : Act) (dst : Option Tmp) (v : Value) (i : Nat) (h : dst ≠ some i) : (a.put dst v).tmps.getD i undef = a.tmps.getD i undef := by
  cases dst with
  | none => rfl
  | some d =>
    have : d ≠ i := fun e => h (by rw [e])
    simp [Act.put, Array.getD_eq_getD_getElem?, Array.getElem?_setIfInBounds_ne this]
theorem put_defers (a : Act) (dst : Option Tmp) (v : Value) : (a.put dst v).defers = a.defers := by cases dst <;> rfl
theorem PanQ.put {Q : Exit → Act → World → Prop} {i j : Nat} {x y : Value} {D : List Deferred} {G : List PanicEntry → World → Prop} {dst : Option Tmp} {v : Value} (h1 : dst ≠ some i) (h2 : dst ≠ some j) (c : List PanicEntry) (a : Act) (w : World)
    (h : PanQ Q i j x y D G (.panic c) (a.put dst v) w) : PanQ Q i j x y D G (.panic c) a w := by
  obtain ⟨e1, e2, e3, e4⟩ := h
  rw [put_getD _ _ _ _ h1] at e2
  rw [put_getD _ _ _ _ h2] at e3
  rw [put_defers] at e1
  exact ⟨e1, e2, e3, e4⟩
theorem PanQ.normal {Q : Exit → Act → World → Prop} {i j : Nat} {x y : Value} {D : List Deferred} {G : List PanicEntry → World → Prop} {a : Act} {w : World} (h : Q .normal a w) : PanQ Q i j x y D G .normal a w := h
theorem wp_region_pan {P : Program} {id : Nat} {ops : Array Oper} {b : Bool} {Q : Exit → Act → World → Prop} {a : Act} {w : World} (i j : Nat) (x y : Value) (D : List Deferred) (G : List PanicEntry → World → Prop)
    (hG : ∀ c a w, a.defers = D → a.tmps.getD i undef = x → a.tmps.getD j undef = y → G c w → Q (.panic c) a w) (h : (Code.region id ops b).wp P (PanQ Q i j x y D G) a w) : (Code.region id ops b).wp P Q a w :=
  Code.wp_mono (fun e a w hq => by
    cases e with
    | panic c => exact hG c a w hq.1 hq.2.1 hq.2.2.1 hq.2.2.2
    | _ => exact hq) h
end Go.Proofs.YtoolanjbmbcaiaaGreatDoor
namespace Go.Proofs.YtoolanjbmbcaiaaGreatDoor
open Go.RowKit Bf

theorem NumS.setb {w W : World} {an bn : Bool} {xn xd yn yd : ByteArray} (h : NumS w an bn xn xd yn yd W) (b j : Nat) (hb : w.heap.size + 1 < b) (u : Value) : NumS w an bn xn xd yn yd (W.setCell ⟨b, j, none⟩ u) := by
  obtain ⟨h1, h2, h3, h4, h5, h6, h7, h8⟩ := h
  have e : ∀ c o, c ≠ b → (W.setCell ⟨b, j, none⟩ u).cell? ⟨c, o, none⟩ = W.cell? ⟨c, o, none⟩ := fun c o hc => World.cell?_of_block (w := W) (Below.heap_setCell _ _ _ _ hc)
  refine ⟨(e _ _ (by omega)).trans h1, (e _ _ (by omega)).trans h2, (e _ _ (by omega)).trans h3, (e _ _ (by omega)).trans h4, (e _ _ (by omega)).trans h5, (e _ _ (by omega)).trans h6, by simpa [World.setCell] using h7, h8.setCell (by simp; omega) _⟩

/-- The results of calculate lie in two blocks. -/
def CalR (w W : World) : Prop := ∃ a b c d, W.heap[w.heap.size + 1 + 1]? = some (.cells #[a, b, c] 25 (0, 0)) ∧ W.heap[w.heap.size + 1 + 1 + 1]? = some (.cells #[d] 31 (0, 0))
theorem CalR.next {w W W' : World} (h : CalR w W) (hb : Below W.heap.size W W') : CalR w W' := by
  obtain ⟨a, b, c, d, h1, h2⟩ := h
  exact ⟨a, b, c, d, (hb.block _ (Array.getElem?_eq_some_iff.1 h1).1).trans h1, (hb.block _ (Array.getElem?_eq_some_iff.1 h2).1).trans h2⟩
theorem CalR.size {w W : World} (h : CalR w W) : w.heap.size + 3 < W.heap.size := by
  obtain ⟨a, b, c, d, h1, h2⟩ := h
  have := (Array.getElem?_eq_some_iff.1 h2).1
  omega
def limV (k : Int) : Value := .tuple #[.agg #[.bool false, .string ⟨#[]⟩, .string ⟨#[]⟩], .int .i64 k]

set_option maxRecDepth 100000 in
set_option maxHeartbeats 1000000 in
/-- Where the calculation panics, calculate returns the error. -/
theorem calc_leaves (w W : World) (k : Int) (tmps : Array Value) (h6 : tmps.getD 6 undef = .pointer (some ⟨w.heap.size + 1 + 1, 0, none⟩)) (h7 : tmps.getD 7 undef = .pointer (some ⟨w.heap.size + 1 + 1 + 1, 0, none⟩)) (hR : CalR w W) (hb : Below w.heap.size w W) :
    Leaves Tryz.prog Tryz.f100 tmps (Ret w (limV k)) [{ target := .fn (.func 144) #[.pointer (some ⟨w.heap.size + 1 + 1, 0, none⟩), .pointer (some ⟨w.heap.size + 1 + 1 + 1, 0, none⟩)], args := #[] }] (.panicking (ratPanic k)) W := by
  have hsz := hR.size
  rw [Array.getD_eq_getD_getElem?] at h6 h7
  obtain ⟨a, b, c, d, h1, h2⟩ := hR
  refine leaves_cons (f := 144) (args := #[.pointer (some ⟨w.heap.size + 1 + 1, 0, none⟩), .pointer (some ⟨w.heap.size + 1 + 1 + 1, 0, none⟩)]) (by simp) (by simp [go_sem]) ?_
  refine (catch_panic _ _ k _ _ _ _ _ h1 h2 (by omega)).mono ?_
  rintro e u' w'' ⟨rfl, rfl, w1, hb1, rfl⟩
  have hr1 := (hb1.block _ (Array.getElem?_eq_some_iff.1 h1).1).trans h1
  have he1 := (hb1.block _ (Array.getElem?_eq_some_iff.1 h2).1).trans h2
  obtain ⟨q0, f0⟩ := cellAt3 hr1 0 a rfl
  obtain ⟨q1, f1⟩ := cellAt3 hr1 1 b rfl
  obtain ⟨q2, f2⟩ := cellAt3 hr1 2 c rfl
  obtain ⟨q3, f3⟩ := cellAt3 he1 0 d rfl
  have hB := hb.trans (hb1.mono (by omega))
  refine ⟨limV k, by simp [results, Tryz.results100, go_sem, h6, h7, q0, q1, q2, q3, limV], rfl, ?_⟩
  exact (((hB.setCell (p := ⟨w.heap.size + 1 + 1, 0, none⟩) (by simp; omega) _).setCell (p := ⟨w.heap.size + 1 + 1, 1, none⟩) (by simp; omega) _).setCell (p := ⟨w.heap.size + 1 + 1, 2, none⟩) (by simp; omega) _).setCell (p := ⟨w.heap.size + 1 + 1 + 1, 0, none⟩) (by simp; omega) _

set_option maxRecDepth 100000 in
set_option maxHeartbeats 2000000 in
theorem calcMul_ok (a b : Rt) (w : World) (ha : a.ok) (hb : b.ok) (h1 : a.n * b.n < LIM) (h2 : a.d * b.d < LIM) (hT : Tab w) :
    Calls Tryz.prog 100 #[.int .u8 42, ratV a, ratV b] w (Ret w (.tuple #[ratV (lowR (a.neg != b.neg) (a.n * b.n) (a.d * b.d)), .int .i64 0])) := by
  have HM := Lib.hid (fun W => opsMul_ok a.neg b.neg a.n a.d b.n b.d W ha.1 ha.2.1 hb.1 hb.2.1 h1 h2)
  have HL := Lib.hid (fun W (hW : Tab W) => lowest_ok (a.neg != b.neg) (a.n * b.n) (a.d * b.d) W h1 h2 (by have := ha.2.2.1; have := hb.2.2.1; exact Nat.mul_pos (by omega) (by omega)) hW)
  unfold ratV at HL
  have HC1 := Lib.hid (fun W (hW : Tab W) => rcheck_any a.neg (bs a.n) (bs a.d) W hW)
  have HC2 := Lib.hid (fun W (hW : Tab W) => rcheck_any b.neg (bs b.n) (bs b.d) W hW)
  rw [rchk_ok (RatS.of ha)] at HC1
  rw [rchk_ok (RatS.of hb)] at HC2
  have HLK := Lib.hid (fun W : World => run_lookup_found (P := Tryz.prog) 208 5 207 .u8 Tryz.underlying208 Tryz.underlying5 (W.alloc opsMap).drew W.heap.size _ _ 2 42 (.func (.func 178) #[] #[]) (World.alloc_heap_new W _) rfl)
  have HT := Lib.hid hT
  have hmf : ∀ (fn : Fn) (first cap : Array Value) (w : World), (Instr.makeFunc fn first cap).run Tryz.prog w = .ok (.func fn first cap) w := fun _ _ _ _ => rfl
  unfold ratV
  obtain ⟨an, x, y⟩ := a
  obtain ⟨bn, x', y'⟩ := b
  simp only at *
  clear h1 h2
  generalize lowR (an != bn) (x * x') (y * y') = rr at *
  generalize bs (x * x') = sx at *
  generalize bs (y * y') = sy at *
  generalize bs x = xn at *
  generalize bs y = xd at *
  generalize bs x' = yn at *
  generalize bs y' = yd at *
  clear ha hb hT
  go_enter_defers Tryz.func100, Tryz.ntmps100
  go_wp2_with fail
  refine (HC1.out _ (HT.out.below ((((Below.refl w.heap.size w).alloc (Nat.le_refl _) _).alloc (by simp) _).alloc (by simp; omega) _ |>.alloc (by simp; omega) _))).mono ?_
  rintro e w1 ⟨rfl, hb1⟩
  obtain ⟨hc1, hf1⟩ := bcell hb1
  have hz1 : w.heap.size + 3 < w1.heap.size := by have := hb1.size; simp at this; omega
  have hy1 : w.heap.size + 1 < w1.heap.size := by omega
  have hy0 : w.heap.size < w1.heap.size := by omega
  have S1 : Hid (NumS w an bn xn xd yn yd w1) := by
    refine ⟨by simp [go_sem, hc1], by simp [go_sem, hc1], by simp [go_sem, hc1], by simp [go_sem, hc1], by simp [go_sem, hc1], by simp [go_sem, hc1], by omega, ?_⟩
    exact (((((Below.refl w.heap.size w).alloc (Nat.le_refl _) _).alloc (by simp) _).alloc (by simp; omega) _).alloc (by simp; omega) _).trans (hb1.mono (by simp; omega))
  have R1 : Hid (CalR w w1) := by
    refine ⟨.bool false, .string ⟨#[]⟩, .string ⟨#[]⟩, .int .i64 0, (hb1.block _ (by simp)).trans ?_, (hb1.block _ (by simp)).trans ?_⟩
    · rw [Below.heap_alloc _ _ _ (by simp)]
      have e := World.alloc_heap_new ((w.alloc (.cells #[.bool an, .string xn, .string xd] 25)).alloc (.cells #[.bool bn, .string yn, .string yd] 25)) (.cells #[.bool false, .string ⟨#[]⟩, .string ⟨#[]⟩] 25)
      rwa [World.size_alloc, World.size_alloc] at e
    · have e := World.alloc_heap_new (((w.alloc (.cells #[.bool an, .string xn, .string xd] 25)).alloc (.cells #[.bool bn, .string yn, .string yd] 25)).alloc (.cells #[.bool false, .string ⟨#[]⟩, .string ⟨#[]⟩] 25)) (.cells #[.int .i64 0] 31)
      rwa [World.size_alloc, World.size_alloc, World.size_alloc] at e
  clear hb1
  go_wp2_with fail
  refine (HC2.out _ (HT.out.below S1.out.2.2.2.2.2.2.2)).mono ?_
  rintro e w2 ⟨rfl, hb2⟩
  obtain ⟨hc2, hf2⟩ := bcell hb2
  have S0 : NumS w an bn xn xd yn yd w2.drew := by have := S1.out.next hb2; exact ⟨this.1, this.2.1, this.2.2.1, this.2.2.2.1, this.2.2.2.2.1, this.2.2.2.2.2.1, this.2.2.2.2.2.2.1, this.2.2.2.2.2.2.2.drew⟩
  have R0 : CalR w w2.drew := by have := R1.out.next hb2; exact this
  have HS0 := Lib.hid S0
  have HR0 := Lib.hid R0
  clear hb2 S0 R0 S1 R1
  go_wp2
  clear hc1 hf1 hc2 hf2 hz1 hy1 hy0
  have S0 := HS0.out
  have R0 := HR0.out
  refine wp_region_pan 6 7 (.pointer (some ⟨w.heap.size + 1 + 1, 0, none⟩)) (.pointer (some ⟨w.heap.size + 1 + 1 + 1, 0, none⟩)) [{ target := .fn (.func 144) #[.pointer (some ⟨w.heap.size + 1 + 1, 0, none⟩), .pointer (some ⟨w.heap.size + 1 + 1 + 1, 0, none⟩)], args := #[] }] (fun c W => False) ?_ ?_
  · intro c a w _ _ _ h; exact h.elim
  -- <Mulok>
  refine wp_region_held_drew (S := (fun w' => w'.cell? ⟨w.heap.size, 0, none⟩ = some (.bool an) ∧ w'.cell? ⟨w.heap.size, 1, none⟩ = some (.string xn) ∧ w'.cell? ⟨w.heap.size, 2, none⟩ = some (.string xd) ∧ w'.cell? ⟨w.heap.size + 1, 0, none⟩ = some (.bool bn) ∧ w'.cell? ⟨w.heap.size + 1, 1, none⟩ = some (.string yn) ∧ w'.cell? ⟨w.heap.size + 1, 2, none⟩ = some (.string yd) ∧ w.heap.size + 3 ≤ w'.heap.size ∧ Below w.heap.size w w')) (by kernel_rfl) ?_ (fun hHeld => ?_)
  · exact S0
  refine rp_take (i := 1) (v := ?_) rfl (by kernel_rfl) (by kernel_rfl) (by kernel_rfl) (by rfl) (by assumption) ?_ (by exact PanQ.put (by decide) (by decide)) ?_
  rotate_left
  · (intro w hSw; (try dsimp only at hSw); go_simp; try (with_reducible rfl))
  (try simp only [Act.put, List.setIfInBounds_toArray, List.set_cons_zero, List.set_cons_succ])
  refine rp_take (i := 3) (v := ?_) rfl (by kernel_rfl) (by kernel_rfl) (by kernel_rfl) (by rfl) (by assumption) ?_ (by exact PanQ.put (by decide) (by decide)) ?_
  rotate_left
  · (intro w hSw; (try dsimp only at hSw); go_simp; try (with_reducible rfl))
  (try simp only [Act.put, List.setIfInBounds_toArray, List.set_cons_zero, List.set_cons_succ])
  refine rp_take (i := 4) (v := ?_) rfl (by kernel_rfl) (by kernel_rfl) (by kernel_rfl) (by rfl) (by assumption) ?_ (by exact PanQ.put (by decide) (by decide)) ?_
  rotate_left
  · (intro w hSw; (try dsimp only at hSw); go_simp; try (with_reducible rfl))
  (try simp only [Act.put, List.setIfInBounds_toArray, List.set_cons_zero, List.set_cons_succ])
  refine rp_take (i := 5) (v := ?_) rfl (by kernel_rfl) (by kernel_rfl) (by kernel_rfl) (by rfl) (by assumption) ?_ (by exact PanQ.put (by decide) (by decide)) ?_
  rotate_left
  · (intro w hSw; (try dsimp only at hSw); go_simp; try (with_reducible rfl))
  (try simp only [Act.put, List.setIfInBounds_toArray, List.set_cons_zero, List.set_cons_succ])
  refine rp_take (i := 6) (v := ?_) rfl (by kernel_rfl) (by kernel_rfl) (by kernel_rfl) (by rfl) (by assumption) ?_ (by exact PanQ.put (by decide) (by decide)) ?_
  rotate_left
  · (intro w hSw; (try dsimp only at hSw); go_simp; try (with_reducible rfl))
  (try simp only [Act.put, List.setIfInBounds_toArray, List.set_cons_zero, List.set_cons_succ])
  refine rp_take (i := 7) (v := ?_) rfl (by kernel_rfl) (by kernel_rfl) (by kernel_rfl) (by rfl) (by assumption) ?_ (by exact PanQ.put (by decide) (by decide)) ?_
  rotate_left
  · (intro w hSw; (try dsimp only at hSw); go_simp; try (with_reducible rfl))
  (try simp only [Act.put, List.setIfInBounds_toArray, List.set_cons_zero, List.set_cons_succ])
  refine rp_take (i := 8) (v := ?_) rfl (by kernel_rfl) (by kernel_rfl) (by kernel_rfl) (by rfl) (by assumption) ?_ (by exact PanQ.put (by decide) (by decide)) ?_
  rotate_left
  · (intro w hSw; (try dsimp only at hSw); go_simp; try (with_reducible rfl))
  (try simp only [Act.put, List.setIfInBounds_toArray, List.set_cons_zero, List.set_cons_succ])
  refine rp_take (i := 9) (v := ?_) rfl (by kernel_rfl) (by kernel_rfl) (by kernel_rfl) (by rfl) (by assumption) ?_ (by exact PanQ.put (by decide) (by decide)) ?_
  rotate_left
  · (intro w hSw; (try dsimp only at hSw); go_simp; try (with_reducible rfl))
  (try simp only [Act.put, List.setIfInBounds_toArray, List.set_cons_zero, List.set_cons_succ])
  refine rp_take (i := 10) (v := ?_) rfl (by kernel_rfl) (by kernel_rfl) (by kernel_rfl) (by rfl) (by assumption) ?_ (by exact PanQ.put (by decide) (by decide)) ?_
  rotate_left
  · (intro w hSw; (try dsimp only at hSw); go_simp; try (with_reducible rfl))
  (try simp only [Act.put, List.setIfInBounds_toArray, List.set_cons_zero, List.set_cons_succ])
  refine rp_take (i := 11) (v := ?_) rfl (by kernel_rfl) (by kernel_rfl) (by kernel_rfl) (by rfl) (by assumption) ?_ (by exact PanQ.put (by decide) (by decide)) ?_
  rotate_left
  · (intro w hSw; (try dsimp only at hSw); go_simp; try (with_reducible rfl))
  (try simp only [Act.put, List.setIfInBounds_toArray, List.set_cons_zero, List.set_cons_succ])
  refine rp_take (i := 12) (v := ?_) rfl (by kernel_rfl) (by kernel_rfl) (by kernel_rfl) (by rfl) (by assumption) ?_ (by exact PanQ.put (by decide) (by decide)) ?_
  rotate_left
  · (intro w hSw; (try dsimp only at hSw); go_simp; try (with_reducible rfl))
  (try simp only [Act.put, List.setIfInBounds_toArray, List.set_cons_zero, List.set_cons_succ])
  refine rp_take (i := 13) (v := ?_) rfl (by kernel_rfl) (by kernel_rfl) (by kernel_rfl) (by rfl) (by assumption) ?_ (by exact PanQ.put (by decide) (by decide)) ?_
  rotate_left
  · (intro w hSw; (try dsimp only at hSw); go_simp; try (with_reducible rfl))
  (try simp only [Act.put, List.setIfInBounds_toArray, List.set_cons_zero, List.set_cons_succ])
  refine rp_take (i := 14) (v := ?_) rfl (by kernel_rfl) (by kernel_rfl) (by kernel_rfl) (by rfl) (by assumption) ?_ (by exact PanQ.put (by decide) (by decide)) ?_
  rotate_left
  · (intro w hSw; (try dsimp only at hSw); go_simp; try (with_reducible rfl))
  (try simp only [Act.put, List.setIfInBounds_toArray, List.set_cons_zero, List.set_cons_succ])
  refine rp_take (i := 15) (v := ?_) rfl (by kernel_rfl) (by kernel_rfl) (by kernel_rfl) (by rfl) (by assumption) ?_ (by exact PanQ.put (by decide) (by decide)) ?_
  rotate_left
  · (intro w hSw; (try dsimp only at hSw); go_simp; try (with_reducible rfl))
  (try simp only [Act.put, List.setIfInBounds_toArray, List.set_cons_zero, List.set_cons_succ])
  refine rp_take (i := 16) (v := ?_) rfl (by kernel_rfl) (by kernel_rfl) (by kernel_rfl) (by rfl) (by assumption) ?_ (by exact PanQ.put (by decide) (by decide)) ?_
  rotate_left
  · (intro w hSw; (try dsimp only at hSw); go_simp; try (with_reducible rfl))
  (try simp only [Act.put, List.setIfInBounds_toArray, List.set_cons_zero, List.set_cons_succ])
  refine wpAnyH_ready (rs := [0]) (by kernel_rfl) (by simp) ?_
  refine rh_cons (i := 0) rfl (fun K hK => ?_) ?_
  · go_simp
    refine (operations_any _).mono ?_
    rintro e w3 ⟨rfl, rfl⟩
    have hb3 := (Below.refl w2.drew.heap.size w2.drew).alloc (Nat.le_refl _) opsMap
    have R1 := CalR.next R0 hb3
    have S1 := NumS.next hHeld hb3
    have hlk := HLK.out w2
    go_wp2_with fail
    refine hK.out _ _ ?_ (fun hHeld => ?_)
    · (try dsimp only)
      exact S1
    clear hK K
    (try simp only [Act.put, List.setIfInBounds_toArray, List.set_cons_zero, List.set_cons_succ])
    refine wpAnyH_ready (rs := [2]) (by kernel_rfl) (by simp) ?_
    refine rh_cons (i := 2) rfl (fun K hK => ?_) ?_
    · go_simp
      have S1 := hHeld
      refine hK.out _ _ ?_ (fun hHeld => ?_)
      · (try dsimp only)
        exact S1
      clear hK K
      (try simp only [Act.put, List.setIfInBounds_toArray, List.set_cons_zero, List.set_cons_succ])
      refine wpAnyH_ready (rs := [17]) (by kernel_rfl) (by simp) ?_
      refine rh_cons (i := 17) rfl (fun K hK => ?_) ?_
      · go_simp
        refine (HM.out _).mono ?_
        rintro e w4 ⟨rfl, hb4⟩
        have R1 := CalR.next R1 hb4
        have S1 := NumS.next hHeld hb4
        go_wp2_with fail
        refine hK.out _ _ ?_ (fun hHeld => ?_)
        · (try dsimp only)
          exact S1
        clear hK K
        (try simp only [Act.put, List.setIfInBounds_toArray, List.set_cons_zero, List.set_cons_succ])
        refine wpAnyH_ready (rs := [18]) (by kernel_rfl) (by simp) ?_
        refine rh_cons (i := 18) rfl (fun K hK => ?_) ?_
        · go_simp
          refine (HL.out _ (HT.out.below hHeld.2.2.2.2.2.2.2)).mono ?_
          rintro e w5 ⟨rfl, hb5⟩
          have R1 := CalR.next R1 hb5
          have S1 := NumS.next hHeld hb5
          go_wp2_with fail
          refine hK.out _ _ ?_ (fun hHeld => ?_)
          · (try dsimp only)
            exact S1
          clear hK K
          (try simp only [Act.put, List.setIfInBounds_toArray, List.set_cons_zero, List.set_cons_succ])
          refine wpAnyH_ready (rs := [19]) (by kernel_rfl) (by simp) ?_
          refine rh_cons (i := 19) rfl (fun K hK => ?_) ?_
          · go_simp
            obtain ⟨r0, r1, r2, r3, hr1, he1⟩ := R1
            obtain ⟨q0, f0⟩ := cellAt3 hr1 0 r0 rfl
            obtain ⟨q1, f1⟩ := cellAt3 hr1 1 r1 rfl
            obtain ⟨q2, f2⟩ := cellAt3 hr1 2 r2 rfl
            obtain ⟨q3, f3⟩ := cellAt3 he1 0 r3 rfl
            clear hr1 he1
            go_simp
            have S1 := (((NumS.setb hHeld) (w.heap.size + 1 + 1) 0 (by omega) (.bool rr.neg)).setb (w.heap.size + 1 + 1) 1 (by omega) (.string (bs rr.n))).setb (w.heap.size + 1 + 1) 2 (by omega) (.string (bs rr.d))
            refine hK.out _ _ ?_ (fun hHeld => ?_)
            · (try dsimp only)
              exact S1
            clear hK K
            (try simp only [Act.put, List.setIfInBounds_toArray, List.set_cons_zero, List.set_cons_succ])
            refine wpAnyH_ready (rs := [20]) (by kernel_rfl) (by simp) ?_
            refine rh_cons (i := 20) rfl (fun K hK => ?_) ?_
            · go_simp
              have S1 := NumS.setb hHeld (w.heap.size + 1 + 1 + 1) 0 (by omega) (.int .i64 0)
              refine hK.out _ _ ?_ (fun hHeld => ?_)
              · (try dsimp only)
                exact S1
              clear hK K
              (try simp only [Act.put, List.setIfInBounds_toArray, List.set_cons_zero, List.set_cons_succ])
              refine wpAnyH_done (by kernel_rfl) ?_ _
              refine PanQ.normal ?_
              go_wp2
              refine leaves_cons (f := 144) (args := #[.pointer (some ⟨w.heap.size + 1 + 1, 0, none⟩), .pointer (some ⟨w.heap.size + 1 + 1 + 1, 0, none⟩)]) (by simp) (by simp [go_sem]) ?_
              refine (catch_idle _ _ _).mono ?_
              rintro e u' w'' ⟨rfl, rfl, rfl⟩
              refine ⟨.tuple #[.agg #[.bool rr.neg, .string (bs rr.n), .string (bs rr.d)], .int .i64 0], by simp [results, Tryz.results100, go_sem, q0, q1, q2, q3], rfl, S1.2.2.2.2.2.2.2⟩
            exact AllReadyH.nil
          exact AllReadyH.nil
        exact AllReadyH.nil
      exact AllReadyH.nil
    exact AllReadyH.nil
  exact AllReadyH.nil
  -- </Mulok>

set_option maxRecDepth 100000 in
set_option maxHeartbeats 2000000 in
theorem calcMul_no (a b : Rt) (w : World) (ha : a.ok) (hb : b.ok) (h : ¬ (a.n * b.n < LIM ∧ a.d * b.d < LIM)) (hT : Tab w) :
    Calls Tryz.prog 100 #[.int .u8 42, ratV a, ratV b] w (Ret w (limV 2)) := by
  have HM := Lib.hid (fun W => opsMul_no a.neg b.neg a.n a.d b.n b.d W ha.1 ha.2.1 hb.1 hb.2.1 h)
  have HC1 := Lib.hid (fun W (hW : Tab W) => rcheck_any a.neg (bs a.n) (bs a.d) W hW)
  have HC2 := Lib.hid (fun W (hW : Tab W) => rcheck_any b.neg (bs b.n) (bs b.d) W hW)
  rw [rchk_ok (RatS.of ha)] at HC1
  rw [rchk_ok (RatS.of hb)] at HC2
  have HLK := Lib.hid (fun W : World => run_lookup_found (P := Tryz.prog) 208 5 207 .u8 Tryz.underlying208 Tryz.underlying5 (W.alloc opsMap).drew W.heap.size _ _ 2 42 (.func (.func 178) #[] #[]) (World.alloc_heap_new W _) rfl)
  have HT := Lib.hid hT
  have hmf : ∀ (fn : Fn) (first cap : Array Value) (w : World), (Instr.makeFunc fn first cap).run Tryz.prog w = .ok (.func fn first cap) w := fun _ _ _ _ => rfl
  unfold ratV
  obtain ⟨an, x, y⟩ := a
  obtain ⟨bn, x', y'⟩ := b
  simp only at *
  clear h
  generalize bs x = xn at *
  generalize bs y = xd at *
  generalize bs x' = yn at *
  generalize bs y' = yd at *
  clear ha hb hT
  go_enter_defers Tryz.func100, Tryz.ntmps100
  go_wp2_with fail
  refine (HC1.out _ (HT.out.below ((((Below.refl w.heap.size w).alloc (Nat.le_refl _) _).alloc (by simp) _).alloc (by simp; omega) _ |>.alloc (by simp; omega) _))).mono ?_
  rintro e w1 ⟨rfl, hb1⟩
  obtain ⟨hc1, hf1⟩ := bcell hb1
  have hz1 : w.heap.size + 3 < w1.heap.size := by have := hb1.size; simp at this; omega
  have hy1 : w.heap.size + 1 < w1.heap.size := by omega
  have hy0 : w.heap.size < w1.heap.size := by omega
  have S1 : Hid (NumS w an bn xn xd yn yd w1) := by
    refine ⟨by simp [go_sem, hc1], by simp [go_sem, hc1], by simp [go_sem, hc1], by simp [go_sem, hc1], by simp [go_sem, hc1], by simp [go_sem, hc1], by omega, ?_⟩
    exact (((((Below.refl w.heap.size w).alloc (Nat.le_refl _) _).alloc (by simp) _).alloc (by simp; omega) _).alloc (by simp; omega) _).trans (hb1.mono (by simp; omega))
  have R1 : Hid (CalR w w1) := by
    refine ⟨.bool false, .string ⟨#[]⟩, .string ⟨#[]⟩, .int .i64 0, (hb1.block _ (by simp)).trans ?_, (hb1.block _ (by simp)).trans ?_⟩
    · rw [Below.heap_alloc _ _ _ (by simp)]
      have e := World.alloc_heap_new ((w.alloc (.cells #[.bool an, .string xn, .string xd] 25)).alloc (.cells #[.bool bn, .string yn, .string yd] 25)) (.cells #[.bool false, .string ⟨#[]⟩, .string ⟨#[]⟩] 25)
      rwa [World.size_alloc, World.size_alloc] at e
    · have e := World.alloc_heap_new (((w.alloc (.cells #[.bool an, .string xn, .string xd] 25)).alloc (.cells #[.bool bn, .string yn, .string yd] 25)).alloc (.cells #[.bool false, .string ⟨#[]⟩, .string ⟨#[]⟩] 25)) (.cells #[.int .i64 0] 31)
      rwa [World.size_alloc, World.size_alloc, World.size_alloc] at e
  clear hb1
  go_wp2_with fail
  refine (HC2.out _ (HT.out.below S1.out.2.2.2.2.2.2.2)).mono ?_
  rintro e w2 ⟨rfl, hb2⟩
  obtain ⟨hc2, hf2⟩ := bcell hb2
  have S0 : NumS w an bn xn xd yn yd w2.drew := by have := S1.out.next hb2; exact ⟨this.1, this.2.1, this.2.2.1, this.2.2.2.1, this.2.2.2.2.1, this.2.2.2.2.2.1, this.2.2.2.2.2.2.1, this.2.2.2.2.2.2.2.drew⟩
  have R0 : CalR w w2.drew := by have := R1.out.next hb2; exact this
  have HS0 := Lib.hid S0
  have HR0 := Lib.hid R0
  clear hb2 S0 R0 S1 R1
  go_wp2
  clear hc1 hf1 hc2 hf2 hz1 hy1 hy0
  have S0 := HS0.out
  have R0 := HR0.out
  refine wp_region_pan 6 7 (.pointer (some ⟨w.heap.size + 1 + 1, 0, none⟩)) (.pointer (some ⟨w.heap.size + 1 + 1 + 1, 0, none⟩)) [{ target := .fn (.func 144) #[.pointer (some ⟨w.heap.size + 1 + 1, 0, none⟩), .pointer (some ⟨w.heap.size + 1 + 1 + 1, 0, none⟩)], args := #[] }] (fun c W => c = ratPanic 2 ∧ CalR w W ∧ Below w.heap.size w W) ?_ ?_
  · rintro c ⟨tm, df⟩ W hd h6 h7 ⟨rfl, hR, hB⟩; simp only at hd; subst hd; exact calc_leaves w W 2 tm h6 h7 hR hB
  -- <Mulno>
  refine wp_region_held_drew (S := (fun w' => w'.cell? ⟨w.heap.size, 0, none⟩ = some (.bool an) ∧ w'.cell? ⟨w.heap.size, 1, none⟩ = some (.string xn) ∧ w'.cell? ⟨w.heap.size, 2, none⟩ = some (.string xd) ∧ w'.cell? ⟨w.heap.size + 1, 0, none⟩ = some (.bool bn) ∧ w'.cell? ⟨w.heap.size + 1, 1, none⟩ = some (.string yn) ∧ w'.cell? ⟨w.heap.size + 1, 2, none⟩ = some (.string yd) ∧ w.heap.size + 3 ≤ w'.heap.size ∧ Below w.heap.size w w')) (by kernel_rfl) ?_ (fun hHeld => ?_)
  · exact S0
  refine rp_take (i := 1) (v := ?_) rfl (by kernel_rfl) (by kernel_rfl) (by kernel_rfl) (by rfl) (by assumption) ?_ (by exact PanQ.put (by decide) (by decide)) ?_
  rotate_left
  · (intro w hSw; (try dsimp only at hSw); go_simp; try (with_reducible rfl))
  (try simp only [Act.put, List.setIfInBounds_toArray, List.set_cons_zero, List.set_cons_succ])
  refine rp_take (i := 3) (v := ?_) rfl (by kernel_rfl) (by kernel_rfl) (by kernel_rfl) (by rfl) (by assumption) ?_ (by exact PanQ.put (by decide) (by decide)) ?_
  rotate_left
  · (intro w hSw; (try dsimp only at hSw); go_simp; try (with_reducible rfl))
  (try simp only [Act.put, List.setIfInBounds_toArray, List.set_cons_zero, List.set_cons_succ])
  refine rp_take (i := 4) (v := ?_) rfl (by kernel_rfl) (by kernel_rfl) (by kernel_rfl) (by rfl) (by assumption) ?_ (by exact PanQ.put (by decide) (by decide)) ?_
  rotate_left
  · (intro w hSw; (try dsimp only at hSw); go_simp; try (with_reducible rfl))
  (try simp only [Act.put, List.setIfInBounds_toArray, List.set_cons_zero, List.set_cons_succ])
  refine rp_take (i := 5) (v := ?_) rfl (by kernel_rfl) (by kernel_rfl) (by kernel_rfl) (by rfl) (by assumption) ?_ (by exact PanQ.put (by decide) (by decide)) ?_
  rotate_left
  · (intro w hSw; (try dsimp only at hSw); go_simp; try (with_reducible rfl))
  (try simp only [Act.put, List.setIfInBounds_toArray, List.set_cons_zero, List.set_cons_succ])
  refine rp_take (i := 6) (v := ?_) rfl (by kernel_rfl) (by kernel_rfl) (by kernel_rfl) (by rfl) (by assumption) ?_ (by exact PanQ.put (by decide) (by decide)) ?_
  rotate_left
  · (intro w hSw; (try dsimp only at hSw); go_simp; try (with_reducible rfl))
  (try simp only [Act.put, List.setIfInBounds_toArray, List.set_cons_zero, List.set_cons_succ])
  refine rp_take (i := 7) (v := ?_) rfl (by kernel_rfl) (by kernel_rfl) (by kernel_rfl) (by rfl) (by assumption) ?_ (by exact PanQ.put (by decide) (by decide)) ?_
  rotate_left
  · (intro w hSw; (try dsimp only at hSw); go_simp; try (with_reducible rfl))
  (try simp only [Act.put, List.setIfInBounds_toArray, List.set_cons_zero, List.set_cons_succ])
  refine rp_take (i := 8) (v := ?_) rfl (by kernel_rfl) (by kernel_rfl) (by kernel_rfl) (by rfl) (by assumption) ?_ (by exact PanQ.put (by decide) (by decide)) ?_
  rotate_left
  · (intro w hSw; (try dsimp only at hSw); go_simp; try (with_reducible rfl))
  (try simp only [Act.put, List.setIfInBounds_toArray, List.set_cons_zero, List.set_cons_succ])
  refine rp_take (i := 9) (v := ?_) rfl (by kernel_rfl) (by kernel_rfl) (by kernel_rfl) (by rfl) (by assumption) ?_ (by exact PanQ.put (by decide) (by decide)) ?_
  rotate_left
  · (intro w hSw; (try dsimp only at hSw); go_simp; try (with_reducible rfl))
  (try simp only [Act.put, List.setIfInBounds_toArray, List.set_cons_zero, List.set_cons_succ])
  refine rp_take (i := 10) (v := ?_) rfl (by kernel_rfl) (by kernel_rfl) (by kernel_rfl) (by rfl) (by assumption) ?_ (by exact PanQ.put (by decide) (by decide)) ?_
  rotate_left
  · (intro w hSw; (try dsimp only at hSw); go_simp; try (with_reducible rfl))
  (try simp only [Act.put, List.setIfInBounds_toArray, List.set_cons_zero, List.set_cons_succ])
  refine rp_take (i := 11) (v := ?_) rfl (by kernel_rfl) (by kernel_rfl) (by kernel_rfl) (by rfl) (by assumption) ?_ (by exact PanQ.put (by decide) (by decide)) ?_
  rotate_left
  · (intro w hSw; (try dsimp only at hSw); go_simp; try (with_reducible rfl))
  (try simp only [Act.put, List.setIfInBounds_toArray, List.set_cons_zero, List.set_cons_succ])
  refine rp_take (i := 12) (v := ?_) rfl (by kernel_rfl) (by kernel_rfl) (by kernel_rfl) (by rfl) (by assumption) ?_ (by exact PanQ.put (by decide) (by decide)) ?_
  rotate_left
  · (intro w hSw; (try dsimp only at hSw); go_simp; try (with_reducible rfl))
  (try simp only [Act.put, List.setIfInBounds_toArray, List.set_cons_zero, List.set_cons_succ])
  refine rp_take (i := 13) (v := ?_) rfl (by kernel_rfl) (by kernel_rfl) (by kernel_rfl) (by rfl) (by assumption) ?_ (by exact PanQ.put (by decide) (by decide)) ?_
  rotate_left
  · (intro w hSw; (try dsimp only at hSw); go_simp; try (with_reducible rfl))
  (try simp only [Act.put, List.setIfInBounds_toArray, List.set_cons_zero, List.set_cons_succ])
  refine rp_take (i := 14) (v := ?_) rfl (by kernel_rfl) (by kernel_rfl) (by kernel_rfl) (by rfl) (by assumption) ?_ (by exact PanQ.put (by decide) (by decide)) ?_
  rotate_left
  · (intro w hSw; (try dsimp only at hSw); go_simp; try (with_reducible rfl))
  (try simp only [Act.put, List.setIfInBounds_toArray, List.set_cons_zero, List.set_cons_succ])
  refine rp_take (i := 15) (v := ?_) rfl (by kernel_rfl) (by kernel_rfl) (by kernel_rfl) (by rfl) (by assumption) ?_ (by exact PanQ.put (by decide) (by decide)) ?_
  rotate_left
  · (intro w hSw; (try dsimp only at hSw); go_simp; try (with_reducible rfl))
  (try simp only [Act.put, List.setIfInBounds_toArray, List.set_cons_zero, List.set_cons_succ])
  refine rp_take (i := 16) (v := ?_) rfl (by kernel_rfl) (by kernel_rfl) (by kernel_rfl) (by rfl) (by assumption) ?_ (by exact PanQ.put (by decide) (by decide)) ?_
  rotate_left
  · (intro w hSw; (try dsimp only at hSw); go_simp; try (with_reducible rfl))
  (try simp only [Act.put, List.setIfInBounds_toArray, List.set_cons_zero, List.set_cons_succ])
  refine wpAnyH_ready (rs := [0]) (by kernel_rfl) (by simp) ?_
  refine rh_cons (i := 0) rfl (fun K hK => ?_) ?_
  · go_simp
    refine (operations_any _).mono ?_
    rintro e w3 ⟨rfl, rfl⟩
    have hb3 := (Below.refl w2.drew.heap.size w2.drew).alloc (Nat.le_refl _) opsMap
    have R1 := CalR.next R0 hb3
    have S1 := NumS.next hHeld hb3
    have hlk := HLK.out w2
    go_wp2_with fail
    refine hK.out _ _ ?_ (fun hHeld => ?_)
    · (try dsimp only)
      exact S1
    clear hK K
    (try simp only [Act.put, List.setIfInBounds_toArray, List.set_cons_zero, List.set_cons_succ])
    refine wpAnyH_ready (rs := [2]) (by kernel_rfl) (by simp) ?_
    refine rh_cons (i := 2) rfl (fun K hK => ?_) ?_
    · go_simp
      have S1 := hHeld
      refine hK.out _ _ ?_ (fun hHeld => ?_)
      · (try dsimp only)
        exact S1
      clear hK K
      (try simp only [Act.put, List.setIfInBounds_toArray, List.set_cons_zero, List.set_cons_succ])
      refine wpAnyH_ready (rs := [17]) (by kernel_rfl) (by simp) ?_
      refine rh_cons (i := 17) rfl (fun K hK => ?_) ?_
      · go_simp
        refine (HM.out _).mono ?_
        rintro e w4 ⟨rfl, hb4⟩
        exact ⟨rfl, rfl, rfl, rfl, CalR.next R1 hb4, (NumS.next hHeld hb4).2.2.2.2.2.2.2⟩
      exact AllReadyH.nil
    exact AllReadyH.nil
  exact AllReadyH.nil
  -- </Mulno>

set_option maxRecDepth 100000 in
set_option maxHeartbeats 2000000 in
theorem calcDiv_ok (a b : Rt) (w : World) (ha : a.ok) (hb : b.ok) (h0 : b.n ≠ 0) (h1 : a.n * b.d < LIM) (h2 : a.d * b.n < LIM) (hT : Tab w) :
    Calls Tryz.prog 100 #[.int .u8 47, ratV a, ratV b] w (Ret w (.tuple #[ratV (lowR (a.neg != b.neg) (a.n * b.d) (a.d * b.n)), .int .i64 0])) := by
  have hem : (bs b.n).toList.isEmpty = false := by rw [bs_isEmpty]; simp [h0]
  have HM := Lib.hid (fun W => opsDiv_ok a.neg b.neg a.n a.d b.n b.d W ha.1 ha.2.1 hb.1 hb.2.1 h1 h2)
  have HL := Lib.hid (fun W (hW : Tab W) => lowest_ok (a.neg != b.neg) (a.n * b.d) (a.d * b.n) W h1 h2 (by have := ha.2.2.1; have := h0; exact Nat.mul_pos (by omega) (by omega)) hW)
  unfold ratV at HL
  have HC1 := Lib.hid (fun W (hW : Tab W) => rcheck_any a.neg (bs a.n) (bs a.d) W hW)
  have HC2 := Lib.hid (fun W (hW : Tab W) => rcheck_any b.neg (bs b.n) (bs b.d) W hW)
  rw [rchk_ok (RatS.of ha)] at HC1
  rw [rchk_ok (RatS.of hb)] at HC2
  have HLK := Lib.hid (fun W : World => run_lookup_found (P := Tryz.prog) 208 5 207 .u8 Tryz.underlying208 Tryz.underlying5 (W.alloc opsMap).drew W.heap.size _ _ 3 47 (.func (.func 180) #[] #[]) (World.alloc_heap_new W _) rfl)
  have HT := Lib.hid hT
  have hmf : ∀ (fn : Fn) (first cap : Array Value) (w : World), (Instr.makeFunc fn first cap).run Tryz.prog w = .ok (.func fn first cap) w := fun _ _ _ _ => rfl
  unfold ratV
  obtain ⟨an, x, y⟩ := a
  obtain ⟨bn, x', y'⟩ := b
  simp only at *
  clear h1 h2 h0
  generalize lowR (an != bn) (x * y') (y * x') = rr at *
  generalize bs (x * y') = sx at *
  generalize bs (y * x') = sy at *
  generalize bs x = xn at *
  generalize bs y = xd at *
  generalize bs x' = yn at *
  generalize bs y' = yd at *
  clear ha hb hT
  go_enter_defers Tryz.func100, Tryz.ntmps100
  go_wp2_with fail
  refine (HC1.out _ (HT.out.below ((((Below.refl w.heap.size w).alloc (Nat.le_refl _) _).alloc (by simp) _).alloc (by simp; omega) _ |>.alloc (by simp; omega) _))).mono ?_
  rintro e w1 ⟨rfl, hb1⟩
  obtain ⟨hc1, hf1⟩ := bcell hb1
  have hz1 : w.heap.size + 3 < w1.heap.size := by have := hb1.size; simp at this; omega
  have hy1 : w.heap.size + 1 < w1.heap.size := by omega
  have hy0 : w.heap.size < w1.heap.size := by omega
  have S1 : Hid (NumS w an bn xn xd yn yd w1) := by
    refine ⟨by simp [go_sem, hc1], by simp [go_sem, hc1], by simp [go_sem, hc1], by simp [go_sem, hc1], by simp [go_sem, hc1], by simp [go_sem, hc1], by omega, ?_⟩
    exact (((((Below.refl w.heap.size w).alloc (Nat.le_refl _) _).alloc (by simp) _).alloc (by simp; omega) _).alloc (by simp; omega) _).trans (hb1.mono (by simp; omega))
  have R1 : Hid (CalR w w1) := by
    refine ⟨.bool false, .string ⟨#[]⟩, .string ⟨#[]⟩, .int .i64 0, (hb1.block _ (by simp)).trans ?_, (hb1.block _ (by simp)).trans ?_⟩
    · rw [Below.heap_alloc _ _ _ (by simp)]
      have e := World.alloc_heap_new ((w.alloc (.cells #[.bool an, .string xn, .string xd] 25)).alloc (.cells #[.bool bn, .string yn, .string yd] 25)) (.cells #[.bool false, .string ⟨#[]⟩, .string ⟨#[]⟩] 25)
      rwa [World.size_alloc, World.size_alloc] at e
    · have e := World.alloc_heap_new (((w.alloc (.cells #[.bool an, .string xn, .string xd] 25)).alloc (.cells #[.bool bn, .string yn, .string yd] 25)).alloc (.cells #[.bool false, .string ⟨#[]⟩, .string ⟨#[]⟩] 25)) (.cells #[.int .i64 0] 31)
      rwa [World.size_alloc, World.size_alloc, World.size_alloc] at e
  clear hb1
  go_wp2_with fail
  refine (HC2.out _ (HT.out.below S1.out.2.2.2.2.2.2.2)).mono ?_
  rintro e w2 ⟨rfl, hb2⟩
  obtain ⟨hc2, hf2⟩ := bcell hb2
  have S0 : NumS w an bn xn xd yn yd w2.drew := by have := S1.out.next hb2; exact ⟨this.1, this.2.1, this.2.2.1, this.2.2.2.1, this.2.2.2.2.1, this.2.2.2.2.2.1, this.2.2.2.2.2.2.1, this.2.2.2.2.2.2.2.drew⟩
  have R0 : CalR w w2.drew := by have := R1.out.next hb2; exact this
  have HS0 := Lib.hid S0
  have HR0 := Lib.hid R0
  clear hb2 S0 R0 S1 R1
  go_wp2
  clear hc1 hf1 hc2 hf2 hz1 hy1 hy0
  have S0 := HS0.out
  have R0 := HR0.out
  refine wp_region_pan 6 7 (.pointer (some ⟨w.heap.size + 1 + 1, 0, none⟩)) (.pointer (some ⟨w.heap.size + 1 + 1 + 1, 0, none⟩)) [{ target := .fn (.func 144) #[.pointer (some ⟨w.heap.size + 1 + 1, 0, none⟩), .pointer (some ⟨w.heap.size + 1 + 1 + 1, 0, none⟩)], args := #[] }] (fun c W => False) ?_ ?_
  · intro c a w _ _ _ h; exact h.elim
  -- <Divok>
  refine wp_region_held_drew (S := (fun w' => w'.cell? ⟨w.heap.size, 0, none⟩ = some (.bool an) ∧ w'.cell? ⟨w.heap.size, 1, none⟩ = some (.string xn) ∧ w'.cell? ⟨w.heap.size, 2, none⟩ = some (.string xd) ∧ w'.cell? ⟨w.heap.size + 1, 0, none⟩ = some (.bool bn) ∧ w'.cell? ⟨w.heap.size + 1, 1, none⟩ = some (.string yn) ∧ w'.cell? ⟨w.heap.size + 1, 2, none⟩ = some (.string yd) ∧ w.heap.size + 3 ≤ w'.heap.size ∧ Below w.heap.size w w')) (by kernel_rfl) ?_ (fun hHeld => ?_)
  · exact S0
  refine rp_take (i := 1) (v := ?_) rfl (by kernel_rfl) (by kernel_rfl) (by kernel_rfl) (by rfl) (by assumption) ?_ (by exact PanQ.put (by decide) (by decide)) ?_
  rotate_left
  · (intro w hSw; (try dsimp only at hSw); go_simp; try (with_reducible rfl))
  (try simp only [Act.put, List.setIfInBounds_toArray, List.set_cons_zero, List.set_cons_succ])
  refine rp_take (i := 3) (v := ?_) rfl (by kernel_rfl) (by kernel_rfl) (by kernel_rfl) (by rfl) (by assumption) ?_ (by exact PanQ.put (by decide) (by decide)) ?_
  rotate_left
  · (intro w hSw; (try dsimp only at hSw); go_simp; try (with_reducible rfl))
  (try simp only [Act.put, List.setIfInBounds_toArray, List.set_cons_zero, List.set_cons_succ])
  refine rp_take (i := 4) (v := ?_) rfl (by kernel_rfl) (by kernel_rfl) (by kernel_rfl) (by rfl) (by assumption) ?_ (by exact PanQ.put (by decide) (by decide)) ?_
  rotate_left
  · (intro w hSw; (try dsimp only at hSw); go_simp; try (with_reducible rfl))
  (try simp only [Act.put, List.setIfInBounds_toArray, List.set_cons_zero, List.set_cons_succ])
  refine rp_take (i := 5) (v := ?_) rfl (by kernel_rfl) (by kernel_rfl) (by kernel_rfl) (by rfl) (by assumption) ?_ (by exact PanQ.put (by decide) (by decide)) ?_
  rotate_left
  · (intro w hSw; (try dsimp only at hSw); go_simp; try (with_reducible rfl))
  (try simp only [Act.put, List.setIfInBounds_toArray, List.set_cons_zero, List.set_cons_succ])
  refine rp_take (i := 6) (v := ?_) rfl (by kernel_rfl) (by kernel_rfl) (by kernel_rfl) (by rfl) (by assumption) ?_ (by exact PanQ.put (by decide) (by decide)) ?_
  rotate_left
  · (intro w hSw; (try dsimp only at hSw); go_simp; try (with_reducible rfl))
  (try simp only [Act.put, List.setIfInBounds_toArray, List.set_cons_zero, List.set_cons_succ])
  refine rp_take (i := 7) (v := ?_) rfl (by kernel_rfl) (by kernel_rfl) (by kernel_rfl) (by rfl) (by assumption) ?_ (by exact PanQ.put (by decide) (by decide)) ?_
  rotate_left
  · (intro w hSw; (try dsimp only at hSw); go_simp; try (with_reducible rfl))
  (try simp only [Act.put, List.setIfInBounds_toArray, List.set_cons_zero, List.set_cons_succ])
  refine rp_take (i := 8) (v := ?_) rfl (by kernel_rfl) (by kernel_rfl) (by kernel_rfl) (by rfl) (by assumption) ?_ (by exact PanQ.put (by decide) (by decide)) ?_
  rotate_left
  · (intro w hSw; (try dsimp only at hSw); go_simp; try (with_reducible rfl))
  (try simp only [Act.put, List.setIfInBounds_toArray, List.set_cons_zero, List.set_cons_succ])
  refine rp_take (i := 9) (v := ?_) rfl (by kernel_rfl) (by kernel_rfl) (by kernel_rfl) (by rfl) (by assumption) ?_ (by exact PanQ.put (by decide) (by decide)) ?_
  rotate_left
  · (intro w hSw; (try dsimp only at hSw); go_simp; try (with_reducible rfl))
  (try simp only [Act.put, List.setIfInBounds_toArray, List.set_cons_zero, List.set_cons_succ])
  refine rp_take (i := 10) (v := ?_) rfl (by kernel_rfl) (by kernel_rfl) (by kernel_rfl) (by rfl) (by assumption) ?_ (by exact PanQ.put (by decide) (by decide)) ?_
  rotate_left
  · (intro w hSw; (try dsimp only at hSw); go_simp; try (with_reducible rfl))
  (try simp only [Act.put, List.setIfInBounds_toArray, List.set_cons_zero, List.set_cons_succ])
  refine rp_take (i := 11) (v := ?_) rfl (by kernel_rfl) (by kernel_rfl) (by kernel_rfl) (by rfl) (by assumption) ?_ (by exact PanQ.put (by decide) (by decide)) ?_
  rotate_left
  · (intro w hSw; (try dsimp only at hSw); go_simp; try (with_reducible rfl))
  (try simp only [Act.put, List.setIfInBounds_toArray, List.set_cons_zero, List.set_cons_succ])
  refine rp_take (i := 12) (v := ?_) rfl (by kernel_rfl) (by kernel_rfl) (by kernel_rfl) (by rfl) (by assumption) ?_ (by exact PanQ.put (by decide) (by decide)) ?_
  rotate_left
  · (intro w hSw; (try dsimp only at hSw); go_simp; try (with_reducible rfl))
  (try simp only [Act.put, List.setIfInBounds_toArray, List.set_cons_zero, List.set_cons_succ])
  refine rp_take (i := 13) (v := ?_) rfl (by kernel_rfl) (by kernel_rfl) (by kernel_rfl) (by rfl) (by assumption) ?_ (by exact PanQ.put (by decide) (by decide)) ?_
  rotate_left
  · (intro w hSw; (try dsimp only at hSw); go_simp; try (with_reducible rfl))
  (try simp only [Act.put, List.setIfInBounds_toArray, List.set_cons_zero, List.set_cons_succ])
  refine rp_take (i := 14) (v := ?_) rfl (by kernel_rfl) (by kernel_rfl) (by kernel_rfl) (by rfl) (by assumption) ?_ (by exact PanQ.put (by decide) (by decide)) ?_
  rotate_left
  · (intro w hSw; (try dsimp only at hSw); go_simp; try (with_reducible rfl))
  (try simp only [Act.put, List.setIfInBounds_toArray, List.set_cons_zero, List.set_cons_succ])
  refine rp_take (i := 15) (v := ?_) rfl (by kernel_rfl) (by kernel_rfl) (by kernel_rfl) (by rfl) (by assumption) ?_ (by exact PanQ.put (by decide) (by decide)) ?_
  rotate_left
  · (intro w hSw; (try dsimp only at hSw); go_simp; try (with_reducible rfl))
  (try simp only [Act.put, List.setIfInBounds_toArray, List.set_cons_zero, List.set_cons_succ])
  refine rp_take (i := 16) (v := ?_) rfl (by kernel_rfl) (by kernel_rfl) (by kernel_rfl) (by rfl) (by assumption) ?_ (by exact PanQ.put (by decide) (by decide)) ?_
  rotate_left
  · (intro w hSw; (try dsimp only at hSw); go_simp; try (with_reducible rfl))
  (try simp only [Act.put, List.setIfInBounds_toArray, List.set_cons_zero, List.set_cons_succ])
  refine wpAnyH_ready (rs := [0]) (by kernel_rfl) (by simp) ?_
  refine rh_cons (i := 0) rfl (fun K hK => ?_) ?_
  · go_simp
    refine (operations_any _).mono ?_
    rintro e w3 ⟨rfl, rfl⟩
    have hb3 := (Below.refl w2.drew.heap.size w2.drew).alloc (Nat.le_refl _) opsMap
    have R1 := CalR.next R0 hb3
    have S1 := NumS.next hHeld hb3
    have hlk := HLK.out w2
    go_wp2_with fail
    refine hK.out _ _ ?_ (fun hHeld => ?_)
    · (try dsimp only)
      exact S1
    clear hK K
    (try simp only [Act.put, List.setIfInBounds_toArray, List.set_cons_zero, List.set_cons_succ])
    refine wpAnyH_ready (rs := [2]) (by kernel_rfl) (by simp) ?_
    refine rh_cons (i := 2) rfl (fun K hK => ?_) ?_
    · go_simp
      have S1 := hHeld
      refine hK.out _ _ ?_ (fun hHeld => ?_)
      · (try dsimp only)
        exact S1
      clear hK K
      (try simp only [Act.put, List.setIfInBounds_toArray, List.set_cons_zero, List.set_cons_succ])
      refine wpAnyH_ready (rs := [17]) (by kernel_rfl) (by simp) ?_
      refine rh_cons (i := 17) rfl (fun K hK => ?_) ?_
      · go_simp
        refine (HM.out _).mono ?_
        rintro e w4 ⟨rfl, hb4⟩
        have R1 := CalR.next R1 hb4
        have S1 := NumS.next hHeld hb4
        go_wp2_with fail
        refine hK.out _ _ ?_ (fun hHeld => ?_)
        · (try dsimp only)
          exact S1
        clear hK K
        (try simp only [Act.put, List.setIfInBounds_toArray, List.set_cons_zero, List.set_cons_succ])
        refine wpAnyH_ready (rs := [18]) (by kernel_rfl) (by simp) ?_
        refine rh_cons (i := 18) rfl (fun K hK => ?_) ?_
        · go_simp
          refine (HL.out _ (HT.out.below hHeld.2.2.2.2.2.2.2)).mono ?_
          rintro e w5 ⟨rfl, hb5⟩
          have R1 := CalR.next R1 hb5
          have S1 := NumS.next hHeld hb5
          go_wp2_with fail
          refine hK.out _ _ ?_ (fun hHeld => ?_)
          · (try dsimp only)
            exact S1
          clear hK K
          (try simp only [Act.put, List.setIfInBounds_toArray, List.set_cons_zero, List.set_cons_succ])
          refine wpAnyH_ready (rs := [19]) (by kernel_rfl) (by simp) ?_
          refine rh_cons (i := 19) rfl (fun K hK => ?_) ?_
          · go_simp
            obtain ⟨r0, r1, r2, r3, hr1, he1⟩ := R1
            obtain ⟨q0, f0⟩ := cellAt3 hr1 0 r0 rfl
            obtain ⟨q1, f1⟩ := cellAt3 hr1 1 r1 rfl
            obtain ⟨q2, f2⟩ := cellAt3 hr1 2 r2 rfl
            obtain ⟨q3, f3⟩ := cellAt3 he1 0 r3 rfl
            clear hr1 he1
            go_simp
            have S1 := (((NumS.setb hHeld) (w.heap.size + 1 + 1) 0 (by omega) (.bool rr.neg)).setb (w.heap.size + 1 + 1) 1 (by omega) (.string (bs rr.n))).setb (w.heap.size + 1 + 1) 2 (by omega) (.string (bs rr.d))
            refine hK.out _ _ ?_ (fun hHeld => ?_)
            · (try dsimp only)
              exact S1
            clear hK K
            (try simp only [Act.put, List.setIfInBounds_toArray, List.set_cons_zero, List.set_cons_succ])
            refine wpAnyH_ready (rs := [20]) (by kernel_rfl) (by simp) ?_
            refine rh_cons (i := 20) rfl (fun K hK => ?_) ?_
            · go_simp
              have S1 := NumS.setb hHeld (w.heap.size + 1 + 1 + 1) 0 (by omega) (.int .i64 0)
              refine hK.out _ _ ?_ (fun hHeld => ?_)
              · (try dsimp only)
                exact S1
              clear hK K
              (try simp only [Act.put, List.setIfInBounds_toArray, List.set_cons_zero, List.set_cons_succ])
              refine wpAnyH_done (by kernel_rfl) ?_ _
              refine PanQ.normal ?_
              go_wp2
              refine leaves_cons (f := 144) (args := #[.pointer (some ⟨w.heap.size + 1 + 1, 0, none⟩), .pointer (some ⟨w.heap.size + 1 + 1 + 1, 0, none⟩)]) (by simp) (by simp [go_sem]) ?_
              refine (catch_idle _ _ _).mono ?_
              rintro e u' w'' ⟨rfl, rfl, rfl⟩
              refine ⟨.tuple #[.agg #[.bool rr.neg, .string (bs rr.n), .string (bs rr.d)], .int .i64 0], by simp [results, Tryz.results100, go_sem, q0, q1, q2, q3], rfl, S1.2.2.2.2.2.2.2⟩
            exact AllReadyH.nil
          exact AllReadyH.nil
        exact AllReadyH.nil
      exact AllReadyH.nil
    exact AllReadyH.nil
  exact AllReadyH.nil
  -- </Divok>

set_option maxRecDepth 100000 in
set_option maxHeartbeats 2000000 in
theorem calcDiv_no (a b : Rt) (w : World) (ha : a.ok) (hb : b.ok) (h0 : b.n ≠ 0) (h : ¬ (a.n * b.d < LIM ∧ a.d * b.n < LIM)) (hT : Tab w) :
    Calls Tryz.prog 100 #[.int .u8 47, ratV a, ratV b] w (Ret w (limV 2)) := by
  have hem : (bs b.n).toList.isEmpty = false := by rw [bs_isEmpty]; simp [h0]
  have HM := Lib.hid (fun W => opsDiv_no a.neg b.neg a.n a.d b.n b.d W ha.1 ha.2.1 hb.1 hb.2.1 h)
  have HC1 := Lib.hid (fun W (hW : Tab W) => rcheck_any a.neg (bs a.n) (bs a.d) W hW)
  have HC2 := Lib.hid (fun W (hW : Tab W) => rcheck_any b.neg (bs b.n) (bs b.d) W hW)
  rw [rchk_ok (RatS.of ha)] at HC1
  rw [rchk_ok (RatS.of hb)] at HC2
  have HLK := Lib.hid (fun W : World => run_lookup_found (P := Tryz.prog) 208 5 207 .u8 Tryz.underlying208 Tryz.underlying5 (W.alloc opsMap).drew W.heap.size _ _ 3 47 (.func (.func 180) #[] #[]) (World.alloc_heap_new W _) rfl)
  have HT := Lib.hid hT
  have hmf : ∀ (fn : Fn) (first cap : Array Value) (w : World), (Instr.makeFunc fn first cap).run Tryz.prog w = .ok (.func fn first cap) w := fun _ _ _ _ => rfl
  unfold ratV
  obtain ⟨an, x, y⟩ := a
  obtain ⟨bn, x', y'⟩ := b
  simp only at *
  clear h h0
  generalize bs x = xn at *
  generalize bs y = xd at *
  generalize bs x' = yn at *
  generalize bs y' = yd at *
  clear ha hb hT
  go_enter_defers Tryz.func100, Tryz.ntmps100
  go_wp2_with fail
  refine (HC1.out _ (HT.out.below ((((Below.refl w.heap.size w).alloc (Nat.le_refl _) _).alloc (by simp) _).alloc (by simp; omega) _ |>.alloc (by simp; omega) _))).mono ?_
  rintro e w1 ⟨rfl, hb1⟩
  obtain ⟨hc1, hf1⟩ := bcell hb1
  have hz1 : w.heap.size + 3 < w1.heap.size := by have := hb1.size; simp at this; omega
  have hy1 : w.heap.size + 1 < w1.heap.size := by omega
  have hy0 : w.heap.size < w1.heap.size := by omega
  have S1 : Hid (NumS w an bn xn xd yn yd w1) := by
    refine ⟨by simp [go_sem, hc1], by simp [go_sem, hc1], by simp [go_sem, hc1], by simp [go_sem, hc1], by simp [go_sem, hc1], by simp [go_sem, hc1], by omega, ?_⟩
    exact (((((Below.refl w.heap.size w).alloc (Nat.le_refl _) _).alloc (by simp) _).alloc (by simp; omega) _).alloc (by simp; omega) _).trans (hb1.mono (by simp; omega))
  have R1 : Hid (CalR w w1) := by
    refine ⟨.bool false, .string ⟨#[]⟩, .string ⟨#[]⟩, .int .i64 0, (hb1.block _ (by simp)).trans ?_, (hb1.block _ (by simp)).trans ?_⟩
    · rw [Below.heap_alloc _ _ _ (by simp)]
      have e := World.alloc_heap_new ((w.alloc (.cells #[.bool an, .string xn, .string xd] 25)).alloc (.cells #[.bool bn, .string yn, .string yd] 25)) (.cells #[.bool false, .string ⟨#[]⟩, .string ⟨#[]⟩] 25)
      rwa [World.size_alloc, World.size_alloc] at e
    · have e := World.alloc_heap_new (((w.alloc (.cells #[.bool an, .string xn, .string xd] 25)).alloc (.cells #[.bool bn, .string yn, .string yd] 25)).alloc (.cells #[.bool false, .string ⟨#[]⟩, .string ⟨#[]⟩] 25)) (.cells #[.int .i64 0] 31)
      rwa [World.size_alloc, World.size_alloc, World.size_alloc] at e
  clear hb1
  go_wp2_with fail
  refine (HC2.out _ (HT.out.below S1.out.2.2.2.2.2.2.2)).mono ?_
  rintro e w2 ⟨rfl, hb2⟩
  obtain ⟨hc2, hf2⟩ := bcell hb2
  have S0 : NumS w an bn xn xd yn yd w2.drew := by have := S1.out.next hb2; exact ⟨this.1, this.2.1, this.2.2.1, this.2.2.2.1, this.2.2.2.2.1, this.2.2.2.2.2.1, this.2.2.2.2.2.2.1, this.2.2.2.2.2.2.2.drew⟩
  have R0 : CalR w w2.drew := by have := R1.out.next hb2; exact this
  have HS0 := Lib.hid S0
  have HR0 := Lib.hid R0
  clear hb2 S0 R0 S1 R1
  go_wp2
  clear hc1 hf1 hc2 hf2 hz1 hy1 hy0
  have S0 := HS0.out
  have R0 := HR0.out
  refine wp_region_pan 6 7 (.pointer (some ⟨w.heap.size + 1 + 1, 0, none⟩)) (.pointer (some ⟨w.heap.size + 1 + 1 + 1, 0, none⟩)) [{ target := .fn (.func 144) #[.pointer (some ⟨w.heap.size + 1 + 1, 0, none⟩), .pointer (some ⟨w.heap.size + 1 + 1 + 1, 0, none⟩)], args := #[] }] (fun c W => c = ratPanic 2 ∧ CalR w W ∧ Below w.heap.size w W) ?_ ?_
  · rintro c ⟨tm, df⟩ W hd h6 h7 ⟨rfl, hR, hB⟩; simp only at hd; subst hd; exact calc_leaves w W 2 tm h6 h7 hR hB
  -- <Divno>
  refine wp_region_held_drew (S := (fun w' => w'.cell? ⟨w.heap.size, 0, none⟩ = some (.bool an) ∧ w'.cell? ⟨w.heap.size, 1, none⟩ = some (.string xn) ∧ w'.cell? ⟨w.heap.size, 2, none⟩ = some (.string xd) ∧ w'.cell? ⟨w.heap.size + 1, 0, none⟩ = some (.bool bn) ∧ w'.cell? ⟨w.heap.size + 1, 1, none⟩ = some (.string yn) ∧ w'.cell? ⟨w.heap.size + 1, 2, none⟩ = some (.string yd) ∧ w.heap.size + 3 ≤ w'.heap.size ∧ Below w.heap.size w w')) (by kernel_rfl) ?_ (fun hHeld => ?_)
  · exact S0
  refine rp_take (i := 1) (v := ?_) rfl (by kernel_rfl) (by kernel_rfl) (by kernel_rfl) (by rfl) (by assumption) ?_ (by exact PanQ.put (by decide) (by decide)) ?_
  rotate_left
  · (intro w hSw; (try dsimp only at hSw); go_simp; try (with_reducible rfl))
  (try simp only [Act.put, List.setIfInBounds_toArray, List.set_cons_zero, List.set_cons_succ])
  refine rp_take (i := 3) (v := ?_) rfl (by kernel_rfl) (by kernel_rfl) (by kernel_rfl) (by rfl) (by assumption) ?_ (by exact PanQ.put (by decide) (by decide)) ?_
  rotate_left
  · (intro w hSw; (try dsimp only at hSw); go_simp; try (with_reducible rfl))
  (try simp only [Act.put, List.setIfInBounds_toArray, List.set_cons_zero, List.set_cons_succ])
  refine rp_take (i := 4) (v := ?_) rfl (by kernel_rfl) (by kernel_rfl) (by kernel_rfl) (by rfl) (by assumption) ?_ (by exact PanQ.put (by decide) (by decide)) ?_
  rotate_left
  · (intro w hSw; (try dsimp only at hSw); go_simp; try (with_reducible rfl))
  (try simp only [Act.put, List.setIfInBounds_toArray, List.set_cons_zero, List.set_cons_succ])
  refine rp_take (i := 5) (v := ?_) rfl (by kernel_rfl) (by kernel_rfl) (by kernel_rfl) (by rfl) (by assumption) ?_ (by exact PanQ.put (by decide) (by decide)) ?_
  rotate_left
  · (intro w hSw; (try dsimp only at hSw); go_simp; try (with_reducible rfl))
  (try simp only [Act.put, List.setIfInBounds_toArray, List.set_cons_zero, List.set_cons_succ])
  refine rp_take (i := 6) (v := ?_) rfl (by kernel_rfl) (by kernel_rfl) (by kernel_rfl) (by rfl) (by assumption) ?_ (by exact PanQ.put (by decide) (by decide)) ?_
  rotate_left
  · (intro w hSw; (try dsimp only at hSw); go_simp; try (with_reducible rfl))
  (try simp only [Act.put, List.setIfInBounds_toArray, List.set_cons_zero, List.set_cons_succ])
  refine rp_take (i := 7) (v := ?_) rfl (by kernel_rfl) (by kernel_rfl) (by kernel_rfl) (by rfl) (by assumption) ?_ (by exact PanQ.put (by decide) (by decide)) ?_
  rotate_left
  · (intro w hSw; (try dsimp only at hSw); go_simp; try (with_reducible rfl))
  (try simp only [Act.put, List.setIfInBounds_toArray, List.set_cons_zero, List.set_cons_succ])
  refine rp_take (i := 8) (v := ?_) rfl (by kernel_rfl) (by kernel_rfl) (by kernel_rfl) (by rfl) (by assumption) ?_ (by exact PanQ.put (by decide) (by decide)) ?_
  rotate_left
  · (intro w hSw; (try dsimp only at hSw); go_simp; try (with_reducible rfl))
  (try simp only [Act.put, List.setIfInBounds_toArray, List.set_cons_zero, List.set_cons_succ])
  refine rp_take (i := 9) (v := ?_) rfl (by kernel_rfl) (by kernel_rfl) (by kernel_rfl) (by rfl) (by assumption) ?_ (by exact PanQ.put (by decide) (by decide)) ?_
  rotate_left
  · (intro w hSw; (try dsimp only at hSw); go_simp; try (with_reducible rfl))
  (try simp only [Act.put, List.setIfInBounds_toArray, List.set_cons_zero, List.set_cons_succ])
  refine rp_take (i := 10) (v := ?_) rfl (by kernel_rfl) (by kernel_rfl) (by kernel_rfl) (by rfl) (by assumption) ?_ (by exact PanQ.put (by decide) (by decide)) ?_
  rotate_left
  · (intro w hSw; (try dsimp only at hSw); go_simp; try (with_reducible rfl))
  (try simp only [Act.put, List.setIfInBounds_toArray, List.set_cons_zero, List.set_cons_succ])
  refine rp_take (i := 11) (v := ?_) rfl (by kernel_rfl) (by kernel_rfl) (by kernel_rfl) (by rfl) (by assumption) ?_ (by exact PanQ.put (by decide) (by decide)) ?_
  rotate_left
  · (intro w hSw; (try dsimp only at hSw); go_simp; try (with_reducible rfl))
  (try simp only [Act.put, List.setIfInBounds_toArray, List.set_cons_zero, List.set_cons_succ])
  refine rp_take (i := 12) (v := ?_) rfl (by kernel_rfl) (by kernel_rfl) (by kernel_rfl) (by rfl) (by assumption) ?_ (by exact PanQ.put (by decide) (by decide)) ?_
  rotate_left
  · (intro w hSw; (try dsimp only at hSw); go_simp; try (with_reducible rfl))
  (try simp only [Act.put, List.setIfInBounds_toArray, List.set_cons_zero, List.set_cons_succ])
  refine rp_take (i := 13) (v := ?_) rfl (by kernel_rfl) (by kernel_rfl) (by kernel_rfl) (by rfl) (by assumption) ?_ (by exact PanQ.put (by decide) (by decide)) ?_
  rotate_left
  · (intro w hSw; (try dsimp only at hSw); go_simp; try (with_reducible rfl))
  (try simp only [Act.put, List.setIfInBounds_toArray, List.set_cons_zero, List.set_cons_succ])
  refine rp_take (i := 14) (v := ?_) rfl (by kernel_rfl) (by kernel_rfl) (by kernel_rfl) (by rfl) (by assumption) ?_ (by exact PanQ.put (by decide) (by decide)) ?_
  rotate_left
  · (intro w hSw; (try dsimp only at hSw); go_simp; try (with_reducible rfl))
  (try simp only [Act.put, List.setIfInBounds_toArray, List.set_cons_zero, List.set_cons_succ])
  refine rp_take (i := 15) (v := ?_) rfl (by kernel_rfl) (by kernel_rfl) (by kernel_rfl) (by rfl) (by assumption) ?_ (by exact PanQ.put (by decide) (by decide)) ?_
  rotate_left
  · (intro w hSw; (try dsimp only at hSw); go_simp; try (with_reducible rfl))
  (try simp only [Act.put, List.setIfInBounds_toArray, List.set_cons_zero, List.set_cons_succ])
  refine rp_take (i := 16) (v := ?_) rfl (by kernel_rfl) (by kernel_rfl) (by kernel_rfl) (by rfl) (by assumption) ?_ (by exact PanQ.put (by decide) (by decide)) ?_
  rotate_left
  · (intro w hSw; (try dsimp only at hSw); go_simp; try (with_reducible rfl))
  (try simp only [Act.put, List.setIfInBounds_toArray, List.set_cons_zero, List.set_cons_succ])
  refine wpAnyH_ready (rs := [0]) (by kernel_rfl) (by simp) ?_
  refine rh_cons (i := 0) rfl (fun K hK => ?_) ?_
  · go_simp
    refine (operations_any _).mono ?_
    rintro e w3 ⟨rfl, rfl⟩
    have hb3 := (Below.refl w2.drew.heap.size w2.drew).alloc (Nat.le_refl _) opsMap
    have R1 := CalR.next R0 hb3
    have S1 := NumS.next hHeld hb3
    have hlk := HLK.out w2
    go_wp2_with fail
    refine hK.out _ _ ?_ (fun hHeld => ?_)
    · (try dsimp only)
      exact S1
    clear hK K
    (try simp only [Act.put, List.setIfInBounds_toArray, List.set_cons_zero, List.set_cons_succ])
    refine wpAnyH_ready (rs := [2]) (by kernel_rfl) (by simp) ?_
    refine rh_cons (i := 2) rfl (fun K hK => ?_) ?_
    · go_simp
      have S1 := hHeld
      refine hK.out _ _ ?_ (fun hHeld => ?_)
      · (try dsimp only)
        exact S1
      clear hK K
      (try simp only [Act.put, List.setIfInBounds_toArray, List.set_cons_zero, List.set_cons_succ])
      refine wpAnyH_ready (rs := [17]) (by kernel_rfl) (by simp) ?_
      refine rh_cons (i := 17) rfl (fun K hK => ?_) ?_
      · go_simp
        refine (HM.out _).mono ?_
        rintro e w4 ⟨rfl, hb4⟩
        exact ⟨rfl, rfl, rfl, rfl, CalR.next R1 hb4, (NumS.next hHeld hb4).2.2.2.2.2.2.2⟩
      exact AllReadyH.nil
    exact AllReadyH.nil
  exact AllReadyH.nil
  -- </Divno>
end Go.Proofs.YtoolanjbmbcaiaaGreatDoor
namespace Go.Proofs.YtoolanjbmbcaiaaGreatDoor
open Go.RowKit Bf

/-- What Mul and Div return. -/
def calcV : Option Rt → Value
  | some r => .tuple #[.agg #[.bool r.neg, .string (bs r.n), .string (bs r.d)], .int .i64 0]
  | none => .tuple #[.agg #[.bool false, .string ⟨#[]⟩, .string ⟨#[]⟩], .int .i64 2]

theorem calcMul (a b : Rt) (w : World) (ha : a.ok) (hb : b.ok) (hT : Tab w) : Calls Tryz.prog 100 #[.int .u8 42, ratV a, ratV b] w (Ret w (calcV (mulR a b))) := by
  unfold mulR
  by_cases h : a.n * b.n < LIM ∧ a.d * b.d < LIM
  · rw [if_pos h]; exact calcMul_ok a b w ha hb h.1 h.2 hT
  · rw [if_neg h]; exact calcMul_no a b w ha hb h hT
theorem calcDiv (a b : Rt) (w : World) (ha : a.ok) (hb : b.ok) (h0 : b.n ≠ 0) (hT : Tab w) : Calls Tryz.prog 100 #[.int .u8 47, ratV a, ratV b] w (Ret w (calcV (divR a b))) := by
  unfold divR mulR invR
  by_cases h : a.n * b.d < LIM ∧ a.d * b.n < LIM
  · rw [if_pos h]; exact calcDiv_ok a b w ha hb h0 h.1 h.2 hT
  · rw [if_neg h]; exact calcDiv_no a b w ha hb h0 h hT


set_option maxRecDepth 100000 in
set_option maxHeartbeats 1000000 in
theorem rmul_any (a b : Rt) (w : World) (ha : a.ok) (hb : b.ok) (hT : Tab w) : Calls Tryz.prog 69 #[ratV a, ratV b] w (Ret w (calcV (mulR a b))) := by
  have HC := Lib.hid (fun W (hW : Tab W) => calcMul a b W ha hb hW)
  have HT := Lib.hid hT
  clear ha hb hT
  unfold ratV at *
  generalize mulR a b = o at *
  obtain ⟨an, x, y⟩ := a
  obtain ⟨bn, x', y'⟩ := b
  simp only at *
  generalize bs x = xn at *
  generalize bs y = xd at *
  generalize bs x' = yn at *
  generalize bs y' = yd at *
  cases o
  all_goals
    simp only [calcV] at *
    go_enter Tryz.func69, Tryz.ntmps69
    go_wp2_with fail
    refine (HC.out _ (HT.out.below ((((Below.refl w.heap.size w).alloc (Nat.le_refl _) _).alloc (by simp) _).alloc (by simp; omega) _))).mono ?_
    rintro e w1 ⟨rfl, hb1⟩
    obtain ⟨hc1, hf1⟩ := bcell hb1
    have hz1 : w.heap.size + 1 + 1 < w1.heap.size := by have := hb1.size; simp at this; omega
    have HB1 := Lib.hid (((((Below.refl w.heap.size w).alloc (Nat.le_refl _) _).alloc (by simp) _).alloc (by simp; omega) _).trans (hb1.mono (by simp; omega)))
    clear hb1
    go_wp2
    refine bodyPost_ret (v := .tuple #[.agg #[_, _, _], _]) (by simp [results, Tryz.results69, go_sem, hc1]) rfl ⟨rfl, ?_⟩
    exact ((HB1.out.setCell (by simp; omega) _).setCell (by simp; omega) _).setCell (by simp; omega) _

set_option maxRecDepth 100000 in
set_option maxHeartbeats 1000000 in
theorem rdiv_any (a b : Rt) (w : World) (ha : a.ok) (hb : b.ok) (h0 : b.n ≠ 0) (hT : Tab w) : Calls Tryz.prog 68 #[ratV a, ratV b] w (Ret w (calcV (divR a b))) := by
  have HC := Lib.hid (fun W (hW : Tab W) => calcDiv a b W ha hb h0 hW)
  have HT := Lib.hid hT
  clear ha hb hT h0
  unfold ratV at *
  generalize divR a b = o at *
  obtain ⟨an, x, y⟩ := a
  obtain ⟨bn, x', y'⟩ := b
  simp only at *
  generalize bs x = xn at *
  generalize bs y = xd at *
  generalize bs x' = yn at *
  generalize bs y' = yd at *
  cases o
  all_goals
    simp only [calcV] at *
    go_enter Tryz.func68, Tryz.ntmps68
    go_wp2_with fail
    refine (HC.out _ (HT.out.below ((((Below.refl w.heap.size w).alloc (Nat.le_refl _) _).alloc (by simp) _).alloc (by simp; omega) _))).mono ?_
    rintro e w1 ⟨rfl, hb1⟩
    obtain ⟨hc1, hf1⟩ := bcell hb1
    have hz1 : w.heap.size + 1 + 1 < w1.heap.size := by have := hb1.size; simp at this; omega
    have HB1 := Lib.hid (((((Below.refl w.heap.size w).alloc (Nat.le_refl _) _).alloc (by simp) _).alloc (by simp; omega) _).trans (hb1.mono (by simp; omega)))
    clear hb1
    go_wp2
    refine bodyPost_ret (v := .tuple #[.agg #[_, _, _], _]) (by simp [results, Tryz.results68, go_sem, hc1]) rfl ⟨rfl, ?_⟩
    exact ((HB1.out.setCell (by simp; omega) _).setCell (by simp; omega) _).setCell (by simp; omega) _

/-- What Ceil returns. -/
def ceilV : Option Nat → Value
  | some k => .tuple #[.int .i64 (k : Int), .int .i64 0]
  | none => .tuple #[.int .i64 0, .int .i64 2]

theorem intV_yes {n : Nat} (h : n < 9223372036854775808) : intV n = .tuple #[.int .i64 (n : Int), .bool true] := if_pos h
theorem intV_no {n : Nat} (h : ¬ n < 9223372036854775808) : intV n = .tuple #[.int .i64 0, .bool false] := if_neg h

set_option maxRecDepth 100000 in
set_option maxHeartbeats 1000000 in
theorem whole_up (a : Rt) (w : World) (ha : a.ok) (hn : a.neg = false) (hT : Tab w) : Calls Tryz.prog 101 #[ratV a, .bool true] w (Ret w (ceilV (ceilR a))) := by
  have HC := Lib.hid (fun W (hW : Tab W) => rcheck_any a.neg (bs a.n) (bs a.d) W hW)
  rw [rchk_ok (RatS.of ha)] at HC
  have h0 := ha.2.2.1
  have HD := Lib.hid (fun W => div_ok (bs a.n) (bs a.d) W (short_of ha.1) (short_of ha.2.1) (by rw [bv_bs]; omega))
  simp only [bv_bs] at HD
  have hlt : a.n / a.d < LIM := Nat.lt_of_le_of_lt (Nat.div_le_self _ _) ha.1
  have HI := Lib.hid (fun W => int_ok (bs (a.n / a.d)) W (bs_nat _) (by have := (short_of hlt).2; omega))
  simp only [bv_bs] at HI
  have HV : Hid (ceilR a = ceilR a) := rfl
  have hem := bs_isEmpty (a.n % a.d)
  have HT := Lib.hid hT
  unfold ratV
  rw [hn] at *
  unfold ceilR
  clear HV hlt h0 ha hn hT
  generalize a.n / a.d = q at *
  generalize a.n % a.d = r at *
  generalize bs a.n = xn at *
  generalize bs a.d = xd at *
  generalize bs q = sq at *
  generalize bs r = sr at *
  by_cases h1 : q ≤ 4611686018427387904
  · rw [if_pos h1]
    rw [intV_yes (by omega)] at HI
    have t1 : decide (4611686018427387904 < (q : Int)) = false := by simp; omega
    by_cases h2 : r = 0
    · rw [if_pos h2]
      have he : sr.toList.isEmpty = true := by rw [hem]; simp [h2]
      clear hem h2
      go_enter Tryz.func101, Tryz.ntmps101
      go_wp2_with fail
      refine (HC.out _ (HT.out.below ((Below.refl w.heap.size w).alloc (Nat.le_refl _) _))).mono ?_
      rintro e w1 ⟨rfl, hb1⟩
      obtain ⟨hc1, hf1⟩ := bcell hb1
      have hy1 : w.heap.size < w1.heap.size := by have := hb1.size; simp at this; omega
      have HB1 := Lib.hid (((Below.refl w.heap.size w).alloc (Nat.le_refl _) _).trans (hb1.mono (by simp)))
      clear hb1
      go_wp2_with fail
      refine (HD.out _).mono ?_
      rintro e w2 ⟨rfl, hb2⟩
      obtain ⟨hc2, hf2⟩ := bcell hb2
      have hy2 : w.heap.size < w2.heap.size := by have := hb2.size; omega
      have HB2 := Lib.hid (HB1.out.trans (hb2.mono (by omega)))
      clear hb2
      go_wp2_with fail
      refine (HI.out _).mono ?_
      rintro e w3 ⟨rfl, hb3⟩
      obtain ⟨hc3, hf3⟩ := bcell hb3
      have HB3 := Lib.hid (HB2.out.trans (hb3.mono (by omega)))
      clear hb3
      go_wp2
      go_ret2
      exact ⟨rfl, HB3.out⟩
    · rw [if_neg h2]
      have he : sr.toList.isEmpty = false := by rw [hem]; simp [h2]
      clear hem h2
      by_cases h3 : q + 1 ≤ 4611686018427387904
      · rw [if_pos h3]
        have t2 : decide (4611686018427387904 < (q : Int) + 1) = false := by simp; omega
        go_enter Tryz.func101, Tryz.ntmps101
        go_wp2_with fail
        refine (HC.out _ (HT.out.below ((Below.refl w.heap.size w).alloc (Nat.le_refl _) _))).mono ?_
        rintro e w1 ⟨rfl, hb1⟩
        obtain ⟨hc1, hf1⟩ := bcell hb1
        have hy1 : w.heap.size < w1.heap.size := by have := hb1.size; simp at this; omega
        have HB1 := Lib.hid (((Below.refl w.heap.size w).alloc (Nat.le_refl _) _).trans (hb1.mono (by simp)))
        clear hb1
        go_wp2_with fail
        refine (HD.out _).mono ?_
        rintro e w2 ⟨rfl, hb2⟩
        obtain ⟨hc2, hf2⟩ := bcell hb2
        have hy2 : w.heap.size < w2.heap.size := by have := hb2.size; omega
        have HB2 := Lib.hid (HB1.out.trans (hb2.mono (by omega)))
        clear hb2
        go_wp2_with fail
        refine (HI.out _).mono ?_
        rintro e w3 ⟨rfl, hb3⟩
        obtain ⟨hc3, hf3⟩ := bcell hb3
        have HB3 := Lib.hid (HB2.out.trans (hb3.mono (by omega)))
        clear hb3
        go_wp2
        go_ret2
        exact ⟨rfl, HB3.out⟩
      · rw [if_neg h3]
        have t2 : decide (4611686018427387904 < (q : Int) + 1) = true := by simp; omega
        go_enter Tryz.func101, Tryz.ntmps101
        go_wp2_with fail
        refine (HC.out _ (HT.out.below ((Below.refl w.heap.size w).alloc (Nat.le_refl _) _))).mono ?_
        rintro e w1 ⟨rfl, hb1⟩
        obtain ⟨hc1, hf1⟩ := bcell hb1
        have hy1 : w.heap.size < w1.heap.size := by have := hb1.size; simp at this; omega
        have HB1 := Lib.hid (((Below.refl w.heap.size w).alloc (Nat.le_refl _) _).trans (hb1.mono (by simp)))
        clear hb1
        go_wp2_with fail
        refine (HD.out _).mono ?_
        rintro e w2 ⟨rfl, hb2⟩
        obtain ⟨hc2, hf2⟩ := bcell hb2
        have hy2 : w.heap.size < w2.heap.size := by have := hb2.size; omega
        have HB2 := Lib.hid (HB1.out.trans (hb2.mono (by omega)))
        clear hb2
        go_wp2_with fail
        refine (HI.out _).mono ?_
        rintro e w3 ⟨rfl, hb3⟩
        obtain ⟨hc3, hf3⟩ := bcell hb3
        have HB3 := Lib.hid (HB2.out.trans (hb3.mono (by omega)))
        clear hb3
        go_wp2
        go_ret2
        exact ⟨rfl, HB3.out⟩
  · rw [if_neg h1]
    by_cases h4 : q < 9223372036854775808
    · rw [intV_yes h4] at HI
      have t1 : decide (4611686018427387904 < (q : Int)) = true := by simp; omega
      clear hem
      go_enter Tryz.func101, Tryz.ntmps101
      go_wp2_with fail
      refine (HC.out _ (HT.out.below ((Below.refl w.heap.size w).alloc (Nat.le_refl _) _))).mono ?_
      rintro e w1 ⟨rfl, hb1⟩
      obtain ⟨hc1, hf1⟩ := bcell hb1
      have hy1 : w.heap.size < w1.heap.size := by have := hb1.size; simp at this; omega
      have HB1 := Lib.hid (((Below.refl w.heap.size w).alloc (Nat.le_refl _) _).trans (hb1.mono (by simp)))
      clear hb1
      go_wp2_with fail
      refine (HD.out _).mono ?_
      rintro e w2 ⟨rfl, hb2⟩
      obtain ⟨hc2, hf2⟩ := bcell hb2
      have hy2 : w.heap.size < w2.heap.size := by have := hb2.size; omega
      have HB2 := Lib.hid (HB1.out.trans (hb2.mono (by omega)))
      clear hb2
      go_wp2_with fail
      refine (HI.out _).mono ?_
      rintro e w3 ⟨rfl, hb3⟩
      obtain ⟨hc3, hf3⟩ := bcell hb3
      have HB3 := Lib.hid (HB2.out.trans (hb3.mono (by omega)))
      clear hb3
      go_wp2
      go_ret2
      exact ⟨rfl, HB3.out⟩
    · rw [intV_no h4] at HI
      clear hem
      go_enter Tryz.func101, Tryz.ntmps101
      go_wp2_with fail
      refine (HC.out _ (HT.out.below ((Below.refl w.heap.size w).alloc (Nat.le_refl _) _))).mono ?_
      rintro e w1 ⟨rfl, hb1⟩
      obtain ⟨hc1, hf1⟩ := bcell hb1
      have hy1 : w.heap.size < w1.heap.size := by have := hb1.size; simp at this; omega
      have HB1 := Lib.hid (((Below.refl w.heap.size w).alloc (Nat.le_refl _) _).trans (hb1.mono (by simp)))
      clear hb1
      go_wp2_with fail
      refine (HD.out _).mono ?_
      rintro e w2 ⟨rfl, hb2⟩
      obtain ⟨hc2, hf2⟩ := bcell hb2
      have hy2 : w.heap.size < w2.heap.size := by have := hb2.size; omega
      have HB2 := Lib.hid (HB1.out.trans (hb2.mono (by omega)))
      clear hb2
      go_wp2_with fail
      refine (HI.out _).mono ?_
      rintro e w3 ⟨rfl, hb3⟩
      obtain ⟨hc3, hf3⟩ := bcell hb3
      have HB3 := Lib.hid (HB2.out.trans (hb3.mono (by omega)))
      clear hb3
      go_wp2
      go_ret2
      exact ⟨rfl, HB3.out⟩

theorem ceil_any (a : Rt) (w : World) (ha : a.ok) (hn : a.neg = false) (hT : Tab w) : Calls Tryz.prog 71 #[ratV a] w (Ret w (ceilV (ceilR a))) := by
  have HC := Lib.hid (fun W (hW : Tab W) => whole_up a W ha hn hW)
  have HT := Lib.hid hT
  clear ha hn hT
  unfold ratV at *
  generalize ceilR a = o at *
  cases o
  all_goals
    simp only [ceilV] at *
    go_enter Tryz.func71, Tryz.ntmps71
    go_wp2_with fail
    refine (HC.out _ (HT.out.below ((Below.refl w.heap.size w).alloc (Nat.le_refl _) _))).mono ?_
    rintro e w1 ⟨rfl, hb1⟩
    have HB1 := Lib.hid (((Below.refl w.heap.size w).alloc (Nat.le_refl _) _).trans (hb1.mono (by simp)))
    clear hb1
    go_wp2
    go_ret2
    exact ⟨rfl, HB1.out⟩

set_option maxHeartbeats 1000000 in
theorem amount_ok (n : Nat) (w : World) (hn : n < 9223372036854775808) : Calls Tryz.prog 34 #[.int .i64 (n : Int)] w (Ret w (.string (bs n))) := by
  have HO := Lib.hid (fun W => of_ok n W hn)
  generalize bs n = sn at *
  go_enter Tryz.func34, Tryz.ntmps34
  go_wp2_with fail
  refine (HO.out _).mono ?_
  rintro e w1 ⟨rfl, hb1⟩
  have HB1 := Lib.hid hb1
  clear hb1
  go_wp2_with fail
  refine (must_ok _ _).mono ?_
  rintro e w2 ⟨rfl, rfl⟩
  go_wp2
  go_ret
  exact ⟨rfl, HB1.out⟩

theorem new_idle (br be : Nat) (w : World) :
    CallsD Tryz.prog 32 #[.pointer (some ⟨br, 0, none⟩), .pointer (some ⟨be, 0, none⟩)] .returning w fun e u' w' => e = .returned (.tuple #[]) ∧ u' = .returning ∧ w' = w := by
  refine callsD_of_wpS Tryz.func32 rfl fun c₀ cs hu => ?_
  apply wpS_seq
  apply wpS_region
  simp [wpOpsS, go_sem, recoverD, hu, Tryz.ntmps32, Exit.thenS]
  refine wpS_of_wp ?_
  simp only [Array.replicate_succ, Array.replicate_zero, List.push_toArray, List.append_toArray, List.nil_append, List.cons_append, List.setIfInBounds_toArray, List.set_cons_zero, List.set_cons_succ]
  go_wp2
  cases c₀
  simp_all [bodyPostS, results, Tryz.results32]

set_option maxRecDepth 100000 in
set_option maxHeartbeats 1000000 in
theorem new_ok (n d : Nat) (w : World) (hn : n < 9223372036854775808) (hd : d < 9223372036854775808) (h0 : 0 < d) (hT : Tab w) : Calls Tryz.prog 17 #[.int .i64 (n : Int), .int .i64 (d : Int)] w (Ret w (.tuple #[ratV (lowR false n d), .int .i64 0])) := by
  have hlim : 9223372036854775808 ≤ LIM := by decide
  have HA := Lib.hid (fun W => amount_ok n W hn)
  have HB := Lib.hid (fun W => amount_ok d W hd)
  have HL := Lib.hid (fun W (hW : Tab W) => lowest_ok false n d W (by omega) (by omega) h0 hW)
  have HT := Lib.hid hT
  have hmf : ∀ (fn : Fn) (first cap : Array Value) (w : World), (Instr.makeFunc fn first cap).run Tryz.prog w = .ok (.func fn first cap) w := fun _ _ _ _ => rfl
  have t0 : ((d : Int) == 0) = false := by rw [beq_eq_false_iff_ne]; omega
  have t1 : decide ((n : Int) < 0) = false := by simp
  have t2 : decide ((d : Int) < 0) = false := by simp
  clear hT hn hd h0 hlim
  unfold ratV at *
  generalize lowR false n d = r at *
  generalize bs n = xn at *
  generalize bs d = xd at *
  go_enter_defers Tryz.func17, Tryz.ntmps17
  go_wp2_with fail
  refine (HA.out _).mono ?_
  rintro e w1 ⟨rfl, hb1⟩
  obtain ⟨hc1, hf1⟩ := bcell hb1
  have hz1 : w.heap.size + 1 < w1.heap.size := by have := hb1.size; simp at this; omega
  have hy1 : w.heap.size < w1.heap.size := by omega
  have HB1 := Lib.hid ((((Below.refl w.heap.size w).alloc (Nat.le_refl _) _).alloc (by simp) _).trans (hb1.mono (by simp; omega)))
  clear hb1
  go_wp2_with fail
  refine (HB.out _).mono ?_
  rintro e w2 ⟨rfl, hb2⟩
  obtain ⟨hc2, hf2⟩ := bcell hb2
  have hz2 : w.heap.size + 1 < w2.heap.size := by have := hb2.size; omega
  have hy2 : w.heap.size < w2.heap.size := by omega
  have HB2 := Lib.hid (HB1.out.trans (hb2.mono (by omega)))
  clear hb2
  go_wp2_with fail
  refine (HL.out _ (HT.out.below HB2.out)).mono ?_
  rintro e w3 ⟨rfl, hb3⟩
  obtain ⟨hc3, hf3⟩ := bcell hb3
  have hz3 : w.heap.size + 1 < w3.heap.size := by have := hb3.size; omega
  have HB3 := Lib.hid (HB2.out.trans (hb3.mono (by omega)))
  clear hb3
  have q0 : w3.cell? ⟨w.heap.size, 0, none⟩ = some (.bool false) := by rw [hc3 _ _ hy2, hc2 _ _ hy1, hc1 _ _ (by simp; omega)]; simp [go_sem]
  have q1 : w3.cell? ⟨w.heap.size, 1, none⟩ = some (.string ⟨#[]⟩) := by rw [hc3 _ _ hy2, hc2 _ _ hy1, hc1 _ _ (by simp; omega)]; simp [go_sem]
  have q2 : w3.cell? ⟨w.heap.size, 2, none⟩ = some (.string ⟨#[]⟩) := by rw [hc3 _ _ hy2, hc2 _ _ hy1, hc1 _ _ (by simp; omega)]; simp [go_sem]
  have q3 : w3.cell? ⟨w.heap.size + 1, 0, none⟩ = some (.int .i64 0) := by rw [hc3 _ _ hz2, hc2 _ _ hz1, hc1 _ _ (by simp)]; simp [go_sem]
  go_wp2
  refine leaves_cons (f := 32) (args := #[.pointer (some ⟨w.heap.size, 0, none⟩), .pointer (some ⟨w.heap.size + 1, 0, none⟩)]) (by simp) (by simp [go_sem]) ?_
  refine (new_idle _ _ _).mono ?_
  rintro e u' w'' ⟨rfl, rfl, rfl⟩
  refine ⟨.tuple #[.agg #[.bool r.neg, .string (bs r.n), .string (bs r.d)], .int .i64 0], by simp [results, Tryz.results17, go_sem, q0, q1, q2, q3], rfl, ?_⟩
  exact (((HB3.out.setCell (by simp) _).setCell (by simp) _).setCell (by simp) _).setCell (by simp) _
end Go.Proofs.YtoolanjbmbcaiaaGreatDoor
