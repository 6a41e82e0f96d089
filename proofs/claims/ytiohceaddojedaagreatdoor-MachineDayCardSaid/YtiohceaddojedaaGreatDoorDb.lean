/- The walk of MachineDay: the lists of choices, the loop over the program, the runs. -/
import Derived.Test.YtiohceaddojedaaGreatDoorDa
import Derived.Test.YtiohceaddojedaaGreatDoorAp
namespace Go.Proofs.YtiohceaddojedaaGreatDoor
open Go.RowKit Bf

/-- What the loop asks of an instruction. -/
def dayB (c : List Int) (day other : Int) (x : In) : Bool := (x.op == 1) && ((decide (x.A < 0) && (decide (x.B ≤ day) != decide (x.B ≤ other))) || decide ((c.length : Int) ≤ x.A))
theorem day_step {c : List Int} {day other : Int} {l : List In} {k : Nat} {x : In} (hx : l[k]? = some x) (h : (l.take k).all (fun x => !dayB c day other x) = true) (hx' : dayB c day other x = false) : (l.take (k + 1)).all (fun x => !dayB c day other x) = true := by
  rw [List.take_add_one, hx, List.all_append, h]; simp [hx']
theorem day_hyp {c : List Int} {day other : Int} {l : List In} (h : l.all (fun x => !dayB c day other x) = true) : ∀ x ∈ l, x.op = 1 → ¬ ((x.A < 0 ∧ decide (x.B ≤ day) ≠ decide (x.B ≤ other)) ∨ (c.length : Int) ≤ x.A) := by
  intro x hx h1
  have := List.all_eq_true.1 h x hx
  simp only [dayB, h1, Bool.not_eq_true', Bool.and_eq_false_iff, Bool.or_eq_false_iff] at this
  rintro (⟨a, b⟩ | a)
  · rcases this with this | ⟨this | this, _⟩
    · simp at this
    · simp [a] at this
    · exact b (by simpa using this)
  · rcases this with this | ⟨_, this⟩
    · simp at this
    · simp at this; omega

set_option maxRecDepth 100000 in
set_option maxHeartbeats 8000000 in
theorem day_err (A A' : Option Addr) (cap cap' : Nat) (l : List In) (c : List Int) (day other further : Int) (neg : Bool) (n d : ByteArray) (w : World) (hv : CodeV w (.slice A l.length cap) l) (hc : IntsV w (.slice A' c.length cap') c) (hl : l.length ≤ 9223372036854775807) (hcl : c.length ≤ 9223372036854775807) (hT : Tab w) (hfew : fewL l = true) (hr : (decide (n.size ≤ 40) && decide (d.size ≤ 40)) = true) (h6 : c.length ≤ 6) (h60 : l.length ≤ 60) (r : Int) (h0 : r ≠ 0) (h5 : (runE l (c ++ [day]) neg n d (l.length : Int)).1 = r) :
    Calls Tryz.prog 5 #[.slice A l.length cap, .slice A' c.length cap', .int .i64 day, .int .i64 other, .int .i64 further, .agg #[.bool neg, .string n, .string d]] w (Ret w (.bool true)) := by
  have hnot : ∀ (x : Bool) (w : World), (Op.unary .not (.bool x)).run Tryz.prog w = .ok (.bool (!x)) w := fun _ _ => rfl
  have HT := Lib.hid hT
  have HC := Lib.hid hv
  have HI := Lib.hid hc
  clear hT hv hc
  go_enter Tryz.func5, Tryz.ntmps5
  have K : Hid (Blk (w.alloc (.cells #[.bool neg, .string n, .string d] 25)) (w.heap.size) [.bool neg, .string n, .string d] 25) := by
    have := Blk.new w [.bool neg, .string n, .string d] 25
    exact this
  go_wp2_with fail
  refine (sane_any _ (HT.out.below ((Below.refl w.heap.size w).alloc (Below.refl w.heap.size w).size (.cells #[.bool neg, .string n, .string d] 25)))).mono ?_
  rintro e w1 ⟨rfl, hb⟩
  have HB_1 := Lib.hid (((Below.refl w.heap.size w).alloc (Below.refl w.heap.size w).size (.cells #[.bool neg, .string n, .string d] 25)).trans (hb.mono ((Below.refl w.heap.size w).alloc (Below.refl w.heap.size w).size (.cells #[.bool neg, .string n, .string d] 25)).size))
  have C_1 := Lib.hid ((HC.out.below ((Below.refl _ _).alloc (Nat.le_refl _) (.cells #[.bool neg, .string n, .string d] 25))).below hb)
  have I_1 := Lib.hid ((HI.out.below ((Below.refl _ _).alloc (Nat.le_refl _) (.cells #[.bool neg, .string n, .string d] 25))).below hb)
  have K_1 := Lib.hid (K.out.below hb K.out.lt)
  clear hb
  go_wp2_with fail
  refine (few_any _ l _ C_1.out hl).mono ?_
  rw [hfew]
  rintro e w2 ⟨rfl, hb⟩
  have HB_2 := Lib.hid (HB_1.out.trans (hb.mono HB_1.out.size))
  have C_2 := Lib.hid (C_1.out.below hb)
  have I_2 := Lib.hid (I_1.out.below hb)
  have K_2 := Lib.hid (K_1.out.below hb K_1.out.lt)
  clear hb
  obtain ⟨q0, _⟩ := K_2.out.at 0 _ rfl
  obtain ⟨q1, _⟩ := K_2.out.at 1 _ rfl
  obtain ⟨q2, _⟩ := K_2.out.at 2 _ rfl
  have hk := K_2.out.lt
  go_wp2_with fail
  refine (fewR_any neg n d _).mono ?_
  rw [hr]
  rintro e w3 ⟨rfl, hb⟩
  have HB_3 := Lib.hid (HB_2.out.trans (hb.mono HB_2.out.size))
  have C_3 := Lib.hid (C_2.out.below hb)
  have I_3 := Lib.hid (I_2.out.below hb)
  have K_3 := Lib.hid (K_2.out.below hb K_2.out.lt)
  clear hb
  clear q0 q1 q2 hk
  have t1 : decide ((6 : Int) < (c.length : Int)) = false := by simp; omega
  obtain ⟨i0, hi0, hz0, hz1, hz2⟩ := info_parts i64_info
  go_wp2_with (at_builtin; refine wpList_append_any _ rfl _ _ _ rfl w3.heap.size 3 i0 _ 1 8 Tryz.underlying23 hi0 hz0 hz1 hz2 rfl (by omega) (.slice (some ⟨w3.heap.size, 0, none⟩) 0 0) 0 (intC []) rfl ?_ (w3.heap.size + 1) A' c.length cap' (intC c) rfl ?_ ?_ ?_ ?_ ?_ ?_)
  · exact own_empty _ _
  · exact (I_3.out.reads.alloc (Nat.le_refl _) _).more (by omega)
  · exact intC_one c
  · simp only [maxLen]; omega
  · omega
  · simp
  intro v4 w4 hown hg hat
  have hown4 : w4.ownsRow w3.heap.size 3 1 v4 (c).length (intC (c)) := by have := hown; simpa [intC] using this
  have hb4 : Below w3.heap.size w3 w4 := app_below hg
  clear hown hg hat
  obtain ⟨A4, c4, rfl⟩ := owns_slice hown4
  have HO4 := Lib.hid hown4
  have HB4 := Lib.hid hb4
  clear hown4 hb4
  go_wp2_with (at_builtin; refine wpList_append_any _ rfl _ _ _ rfl w3.heap.size 3 i0 _ 1 8 Tryz.underlying23 hi0 hz0 hz1 hz2 rfl (by omega) (.slice A4 (c).length c4) (c).length (intC (c)) rfl ?_ (w4.heap.size + 1) (some ⟨w4.heap.size, 0, none⟩) 1 1 (intC [day]) rfl ?_ ?_ ?_ ?_ ?_ ?_)
  · exact own_alloc HO4.out _
  · exact reads_one _ _ _
  · exact intC_one _
  · (try simp only [List.length_append, List.length_cons, List.length_nil]); simp only [maxLen]; omega
  · (try simp only [List.length_append, List.length_cons, List.length_nil]); omega
  · have := HB4.out.size; simp; omega
  intro v5 w5 hown hg hat
  have hown5 : w5.ownsRow w3.heap.size 3 1 v5 (c ++ [day]).length (intC (c ++ [day])) := by have := hown; simpa [intC] using this
  have hb5 : Below w3.heap.size w3 w5 := app_below2 HB4.out hg (by have := own_base HO4.out; simpa using this)
  clear hown hg hat HO4 HB4
  obtain ⟨nX, hnX⟩ : ∃ n, (c ++ [day]).length = n := ⟨_, rfl⟩
  rw [hnX] at hown5
  obtain ⟨X, cX, rfl⟩ := owns_slice hown5
  have hb := hb5
  have HB_5 := Lib.hid (HB_3.out.trans (hb.mono HB_3.out.size))
  have C_5 := Lib.hid (C_3.out.below hb)
  have I_5 := Lib.hid (I_3.out.below hb)
  have K_5 := Lib.hid (K_3.out.below hb K_3.out.lt)
  have JX_5 := Lib.hid (IntsV.of_own (c := c ++ [day]) (by rw [hnX]; exact hown5))
  clear hnX
  clear hown5 hb5 hb
  go_wp2_with (at_builtin; refine wpList_append_any _ rfl _ _ _ rfl w5.heap.size 3 i0 _ 1 8 Tryz.underlying23 hi0 hz0 hz1 hz2 rfl (by omega) (.slice (some ⟨w5.heap.size, 0, none⟩) 0 0) 0 (intC []) rfl ?_ (w5.heap.size + 1) A' c.length cap' (intC c) rfl ?_ ?_ ?_ ?_ ?_ ?_)
  · exact own_empty _ _
  · exact (I_5.out.reads.alloc (Nat.le_refl _) _).more (by omega)
  · exact intC_one c
  · simp only [maxLen]; omega
  · omega
  · simp
  intro v6 w6 hown hg hat
  have hown6 : w6.ownsRow w5.heap.size 3 1 v6 (c).length (intC (c)) := by have := hown; simpa [intC] using this
  have hb6 : Below w5.heap.size w5 w6 := app_below hg
  clear hown hg hat
  obtain ⟨A6, c6, rfl⟩ := owns_slice hown6
  have HO6 := Lib.hid hown6
  have HB6 := Lib.hid hb6
  clear hown6 hb6
  go_wp2_with (at_builtin; refine wpList_append_any _ rfl _ _ _ rfl w5.heap.size 3 i0 _ 1 8 Tryz.underlying23 hi0 hz0 hz1 hz2 rfl (by omega) (.slice A6 (c).length c6) (c).length (intC (c)) rfl ?_ (w6.heap.size + 1) (some ⟨w6.heap.size, 0, none⟩) 1 1 (intC [other]) rfl ?_ ?_ ?_ ?_ ?_ ?_)
  · exact own_alloc HO6.out _
  · exact reads_one _ _ _
  · exact intC_one _
  · (try simp only [List.length_append, List.length_cons, List.length_nil]); simp only [maxLen]; omega
  · (try simp only [List.length_append, List.length_cons, List.length_nil]); omega
  · have := HB6.out.size; simp; omega
  intro v7 w7 hown hg hat
  have hown7 : w7.ownsRow w5.heap.size 3 1 v7 (c ++ [other]).length (intC (c ++ [other])) := by have := hown; simpa [intC] using this
  have hb7 : Below w5.heap.size w5 w7 := app_below2 HB6.out hg (by have := own_base HO6.out; simpa using this)
  clear hown hg hat HO6 HB6
  obtain ⟨nY, hnY⟩ : ∃ n, (c ++ [other]).length = n := ⟨_, rfl⟩
  rw [hnY] at hown7
  obtain ⟨Y, cY, rfl⟩ := owns_slice hown7
  have hb := hb7
  have HB_7 := Lib.hid (HB_5.out.trans (hb.mono HB_5.out.size))
  have C_7 := Lib.hid (C_5.out.below hb)
  have I_7 := Lib.hid (I_5.out.below hb)
  have K_7 := Lib.hid (K_5.out.below hb K_5.out.lt)
  have JX_7 := Lib.hid (JX_5.out.below hb)
  have JY_7 := Lib.hid (IntsV.of_own (c := c ++ [other]) (by rw [hnY]; exact hown7))
  clear hnY
  clear hown7 hb7 hb
  go_wp2
  go_loopw [62] (fun i wr => ∃ k : Nat, k ≤ l.length ∧ i = .int .i64 k ∧ Hid ((l.take k).all (fun x => !dayB c day other x) = true) ∧ Below w7.heap.size w7 wr) (fun i _ => l.length - (intOf i).toNat)
  case atStart => exact ⟨0, Nat.zero_le _, rfl, by simp [Hid], Below.refl _ _⟩
  case round =>
    obtain ⟨k, hk, rfl, HA, hb⟩ := hrel
    have HLB := Lib.hid hb
    have HB_8 := Lib.hid (HB_7.out.trans (hb.mono HB_7.out.size))
    have C_8 := Lib.hid (C_7.out.below hb)
    have I_8 := Lib.hid (I_7.out.below hb)
    have K_8 := Lib.hid (K_7.out.below hb K_7.out.lt)
    have JX_8 := Lib.hid (JX_7.out.below hb)
    have JY_8 := Lib.hid (JY_7.out.below hb)
    clear hb
    by_cases hlt : k < l.length
    · obtain ⟨x, hx⟩ : ∃ x, l[k]? = some x := ⟨l[k]'hlt, List.getElem?_eq_getElem hlt⟩
      obtain ⟨A2, cap2, e2, hcc⟩ := C_8.out
      cases e2
      rcases hcc with h0 | ⟨b, off, rfl, hc⟩
      · rw [h0] at hx; simp at hx
      obtain ⟨c0, c1, c2, c3, c4, c5⟩ := hc.sp hx
      have HX := Lib.hid hx
      clear hx hc
      by_cases o1 : x.op = 1
      · have z1 : (x.op == 1) = true := by simpa using o1
        by_cases o2 : x.A < 0
        · have z2 : decide (x.A < 0) = true := by simpa using o2
          have z3 : decide ((c.length : Int) ≤ x.A) = false := by simp; omega
          by_cases o3 : x.B ≤ day
          · have z4 : decide (x.B ≤ day) = true := by simpa using o3
            by_cases o4 : x.B ≤ other
            · have z5 : decide (x.B ≤ other) = true := by simpa using o4
              have HD : Hid (dayB c day other x = false) := by show _ = _; simp [dayB, z3, z4, z5]
              go_wp2
              exact ⟨⟨k + 1, by omega, by go_num, day_step HX.out HA.out HD.out, HLB.out.alloc HLB.out.size _⟩, by simp [intOf]; omega⟩
            · have z5 : decide (x.B ≤ other) = false := by simpa using o4
              go_wp2
              go_ret
              exact ⟨rfl, HB_8.out.alloc HB_8.out.size _⟩
          · have z4 : decide (x.B ≤ day) = false := by simpa using o3
            by_cases o4 : x.B ≤ other
            · have z5 : decide (x.B ≤ other) = true := by simpa using o4
              go_wp2
              go_ret
              exact ⟨rfl, HB_8.out.alloc HB_8.out.size _⟩
            · have z5 : decide (x.B ≤ other) = false := by simpa using o4
              have HD : Hid (dayB c day other x = false) := by show _ = _; simp [dayB, z3, z4, z5]
              go_wp2
              exact ⟨⟨k + 1, by omega, by go_num, day_step HX.out HA.out HD.out, HLB.out.alloc HLB.out.size _⟩, by simp [intOf]; omega⟩
        · have z2 : decide (x.A < 0) = false := by simpa using o2
          by_cases o3 : (c.length : Int) ≤ x.A
          · have z3 : decide ((c.length : Int) ≤ x.A) = true := by simpa using o3
            go_wp2
            go_ret
            exact ⟨rfl, HB_8.out.alloc HB_8.out.size _⟩
          · have z3 : decide ((c.length : Int) ≤ x.A) = false := by simpa using o3
            have HD : Hid (dayB c day other x = false) := by show _ = _; simp [dayB, z2, z3]
            go_wp2
            exact ⟨⟨k + 1, by omega, by go_num, day_step HX.out HA.out HD.out, HLB.out.alloc HLB.out.size _⟩, by simp [intOf]; omega⟩
      · have z1 : (x.op == 1) = false := by simpa using o1
        have HD : Hid (dayB c day other x = false) := by show _ = _; simp [dayB, z1]
        go_wp2
        exact ⟨⟨k + 1, by omega, by go_num, day_step HX.out HA.out HD.out, HLB.out.alloc HLB.out.size _⟩, by simp [intOf]; omega⟩
    · skip
      have hk2 : k = l.length := by omega
      subst hk2
      have HDAY := Lib.hid (day_plain l c day other further neg n d (l.length : Int) (day_hyp (by have := HA.out; rwa [List.take_of_length_le (Nat.le_refl _)] at this)))
      go_wp2_with (at_builtin; refine wpList_append_any _ rfl _ _ _ rfl wr.heap.size 3 i0 _ 1 8 Tryz.underlying23 hi0 hz0 hz1 hz2 rfl (by omega) (.slice (some ⟨wr.heap.size, 0, none⟩) 0 0) 0 (intC []) rfl ?_ (wr.heap.size + 1) A' c.length cap' (intC c) rfl ?_ ?_ ?_ ?_ ?_ ?_)
      · exact own_empty _ _
      · exact (I_8.out.reads.alloc (Nat.le_refl _) _).more (by omega)
      · exact intC_one c
      · simp only [maxLen]; omega
      · omega
      · simp
      intro v9 w9 hown hg hat
      have hown9 : w9.ownsRow wr.heap.size 3 1 v9 (c).length (intC (c)) := by have := hown; simpa [intC] using this
      have hb9 : Below wr.heap.size wr w9 := app_below hg
      clear hown hg hat
      obtain ⟨A9, c9, rfl⟩ := owns_slice hown9
      have HO9 := Lib.hid hown9
      have HB9 := Lib.hid hb9
      clear hown9 hb9
      go_wp2_with (at_builtin; refine wpList_append_any _ rfl _ _ _ rfl wr.heap.size 3 i0 _ 1 8 Tryz.underlying23 hi0 hz0 hz1 hz2 rfl (by omega) (.slice A9 (c).length c9) (c).length (intC (c)) rfl ?_ (w9.heap.size + 1) (some ⟨w9.heap.size, 0, none⟩) 1 1 (intC [further]) rfl ?_ ?_ ?_ ?_ ?_ ?_)
      · exact own_alloc HO9.out _
      · exact reads_one _ _ _
      · exact intC_one _
      · (try simp only [List.length_append, List.length_cons, List.length_nil]); simp only [maxLen]; omega
      · (try simp only [List.length_append, List.length_cons, List.length_nil]); omega
      · have := HB9.out.size; simp; omega
      intro v10 w10 hown hg hat
      have hown10 : w10.ownsRow wr.heap.size 3 1 v10 (c ++ [further]).length (intC (c ++ [further])) := by have := hown; simpa [intC] using this
      have hb10 : Below wr.heap.size wr w10 := app_below2 HB9.out hg (by have := own_base HO9.out; simpa using this)
      clear hown hg hat HO9 HB9
      obtain ⟨A10, c10, rfl⟩ := owns_slice hown10
      have HO10 := Lib.hid hown10
      have HB10 := Lib.hid hb10
      clear hown10 hb10
      go_wp2_with (at_builtin; refine wpList_append_any _ rfl _ _ _ rfl wr.heap.size 3 i0 _ 1 8 Tryz.underlying23 hi0 hz0 hz1 hz2 rfl (by omega) (.slice A10 (c ++ [further]).length c10) (c ++ [further]).length (intC (c ++ [further])) rfl ?_ (w10.heap.size + 1) (some ⟨w10.heap.size, 0, none⟩) 1 1 (intC [day]) rfl ?_ ?_ ?_ ?_ ?_ ?_)
      · exact own_alloc HO10.out _
      · exact reads_one _ _ _
      · exact intC_one _
      · (try simp only [List.length_append, List.length_cons, List.length_nil]); simp only [maxLen]; omega
      · (try simp only [List.length_append, List.length_cons, List.length_nil]); omega
      · have := HB10.out.size; simp; omega
      intro v11 w11 hown hg hat
      have hown11 : w11.ownsRow wr.heap.size 3 1 v11 (c ++ [further] ++ [day]).length (intC (c ++ [further] ++ [day])) := by have := hown; simpa [intC] using this
      have hb11 : Below wr.heap.size wr w11 := app_below2 HB10.out hg (by have := own_base HO10.out; simpa using this)
      clear hown hg hat HO10 HB10
      obtain ⟨nZ, hnZ⟩ : ∃ n, (c ++ [further] ++ [day]).length = n := ⟨_, rfl⟩
      rw [hnZ] at hown11
      obtain ⟨Z, cZ, rfl⟩ := owns_slice hown11
      have hb := hb11
      have HB_11 := Lib.hid (HB_8.out.trans (hb.mono HB_8.out.size))
      have C_11 := Lib.hid (C_8.out.below hb)
      have I_11 := Lib.hid (I_8.out.below hb)
      have K_11 := Lib.hid (K_8.out.below hb K_8.out.lt)
      have JX_11 := Lib.hid (JX_8.out.below hb)
      have JY_11 := Lib.hid (JY_8.out.below hb)
      have JZ_11 := Lib.hid (IntsV.of_own (c := c ++ [further] ++ [day]) (by rw [hnZ]; exact hown11))
      clear hnZ
      clear hown11 hb11 hb
      have h6 := (congrArg Prod.fst HDAY.out.1).trans h5
      have h7 := (congrArg Prod.fst HDAY.out.2).trans h5
      clear HDAY
      have H5 := Lib.hid h5
      have H6 := Lib.hid h6
      have H7 := Lib.hid h7
      clear h5 h6 h7 hlt hk
      obtain ⟨q0, _⟩ := K_11.out.at 0 _ rfl
      obtain ⟨q1, _⟩ := K_11.out.at 1 _ rfl
      obtain ⟨q2, _⟩ := K_11.out.at 2 _ rfl
      have hk := K_11.out.lt
      go_wp2_with fail
      refine (Run_any _ _ l (c ++ [day]) neg n d (l.length : Int) _ C_11.out (by omega) JX_11.out (by simp; omega) (by omega) (HT.out.below HB_11.out)).mono ?_
      rintro e w12 ⟨hb, hr1⟩
      have HB_12 := Lib.hid (HB_11.out.trans (hb.mono HB_11.out.size))
      have C_12 := Lib.hid (C_11.out.below hb)
      have I_12 := Lib.hid (I_11.out.below hb)
      have K_12 := Lib.hid (K_11.out.below hb K_11.out.lt)
      have JX_12 := Lib.hid (JX_11.out.below hb)
      have JY_12 := Lib.hid (JY_11.out.below hb)
      have JZ_12 := Lib.hid (JZ_11.out.below hb)
      clear hb
      clear q0 q1 q2 hk
      obtain rfl := hr1.elim (fun h => absurd (H5.out.symm.trans h.1) h0) (fun h => h.2)
      rw [H5.out]
      clear hr1
      obtain ⟨q0, _⟩ := K_12.out.at 0 _ rfl
      obtain ⟨q1, _⟩ := K_12.out.at 1 _ rfl
      obtain ⟨q2, _⟩ := K_12.out.at 2 _ rfl
      have hk := K_12.out.lt
      go_wp2_with fail
      refine (Run_any _ _ l (c ++ [other]) neg n d (l.length : Int) _ C_12.out (by omega) JY_12.out (by simp; omega) (by omega) (HT.out.below HB_12.out)).mono ?_
      rintro e w13 ⟨hb, hr2⟩
      have HB_13 := Lib.hid (HB_12.out.trans (hb.mono HB_12.out.size))
      have C_13 := Lib.hid (C_12.out.below hb)
      have I_13 := Lib.hid (I_12.out.below hb)
      have K_13 := Lib.hid (K_12.out.below hb K_12.out.lt)
      have JX_13 := Lib.hid (JX_12.out.below hb)
      have JY_13 := Lib.hid (JY_12.out.below hb)
      have JZ_13 := Lib.hid (JZ_12.out.below hb)
      clear hb
      clear q0 q1 q2 hk
      obtain rfl := hr2.elim (fun h => absurd (H6.out.symm.trans h.1) h0) (fun h => h.2)
      rw [H6.out]
      clear hr2
      obtain ⟨q0, _⟩ := K_13.out.at 0 _ rfl
      obtain ⟨q1, _⟩ := K_13.out.at 1 _ rfl
      obtain ⟨q2, _⟩ := K_13.out.at 2 _ rfl
      have hk := K_13.out.lt
      go_wp2_with fail
      refine (Run_any _ _ l (c ++ [further] ++ [day]) neg n d (l.length : Int) _ C_13.out (by omega) JZ_13.out (by simp; omega) (by omega) (HT.out.below HB_13.out)).mono ?_
      rintro e w14 ⟨hb, hr3⟩
      have HB_14 := Lib.hid (HB_13.out.trans (hb.mono HB_13.out.size))
      have C_14 := Lib.hid (C_13.out.below hb)
      have I_14 := Lib.hid (I_13.out.below hb)
      have K_14 := Lib.hid (K_13.out.below hb K_13.out.lt)
      have JX_14 := Lib.hid (JX_13.out.below hb)
      have JY_14 := Lib.hid (JY_13.out.below hb)
      have JZ_14 := Lib.hid (JZ_13.out.below hb)
      clear hb
      clear q0 q1 q2 hk
      obtain rfl := hr3.elim (fun h => absurd (H7.out.symm.trans h.1) h0) (fun h => h.2)
      rw [H7.out]
      clear hr3
      go_wp2_with fail
      refine (sameUses_yes _ _ [] _ ⟨_, _, rfl, fun i u h => by simp at h⟩ ⟨_, _, rfl, fun i u h => by simp at h⟩ (by simp)).mono ?_
      rintro e w15 ⟨rfl, hb⟩
      have HB_15 := Lib.hid (HB_14.out.trans (hb.mono HB_14.out.size))
      have C_15 := Lib.hid (C_14.out.below hb)
      have I_15 := Lib.hid (I_14.out.below hb)
      have K_15 := Lib.hid (K_14.out.below hb K_14.out.lt)
      have JX_15 := Lib.hid (JX_14.out.below hb)
      have JY_15 := Lib.hid (JY_14.out.below hb)
      have JZ_15 := Lib.hid (JZ_14.out.below hb)
      clear hb
      go_wp2_with fail
      refine (sameUses_yes _ _ [] _ ⟨_, _, rfl, fun i u h => by simp at h⟩ ⟨_, _, rfl, fun i u h => by simp at h⟩ (by simp)).mono ?_
      rintro e w16 ⟨rfl, hb⟩
      have HB_16 := Lib.hid (HB_15.out.trans (hb.mono HB_15.out.size))
      have C_16 := Lib.hid (C_15.out.below hb)
      have I_16 := Lib.hid (I_15.out.below hb)
      have K_16 := Lib.hid (K_15.out.below hb K_15.out.lt)
      have JX_16 := Lib.hid (JX_15.out.below hb)
      have JY_16 := Lib.hid (JY_15.out.below hb)
      have JZ_16 := Lib.hid (JZ_15.out.below hb)
      clear hb
      go_wp2_with fail
      refine (sameWork_yes _ _ [] _ ⟨_, _, rfl, fun i u h => by simp at h⟩ ⟨_, _, rfl, fun i u h => by simp at h⟩ (by simp)).mono ?_
      rintro e w17 ⟨rfl, hb⟩
      have HB_17 := Lib.hid (HB_16.out.trans (hb.mono HB_16.out.size))
      have C_17 := Lib.hid (C_16.out.below hb)
      have I_17 := Lib.hid (I_16.out.below hb)
      have K_17 := Lib.hid (K_16.out.below hb K_16.out.lt)
      have JX_17 := Lib.hid (JX_16.out.below hb)
      have JY_17 := Lib.hid (JY_16.out.below hb)
      have JZ_17 := Lib.hid (JZ_16.out.below hb)
      clear hb
      go_wp2_with fail
      refine (sameWork_yes _ _ [] _ ⟨_, _, rfl, fun i u h => by simp at h⟩ ⟨_, _, rfl, fun i u h => by simp at h⟩ (by simp)).mono ?_
      rintro e w18 ⟨rfl, hb⟩
      have HB_18 := Lib.hid (HB_17.out.trans (hb.mono HB_17.out.size))
      have C_18 := Lib.hid (C_17.out.below hb)
      have I_18 := Lib.hid (I_17.out.below hb)
      have K_18 := Lib.hid (K_17.out.below hb K_17.out.lt)
      have JX_18 := Lib.hid (JX_17.out.below hb)
      have JY_18 := Lib.hid (JY_17.out.below hb)
      have JZ_18 := Lib.hid (JZ_17.out.below hb)
      clear hb
      go_wp2
      go_ret
      exact ⟨rfl, HB_18.out⟩

set_option maxRecDepth 100000 in
set_option maxHeartbeats 8000000 in
theorem day_good (A A' : Option Addr) (cap cap' : Nat) (l : List In) (c : List Int) (day other further : Int) (neg : Bool) (n d : ByteArray) (w : World) (hv : CodeV w (.slice A l.length cap) l) (hc : IntsV w (.slice A' c.length cap') c) (hl : l.length ≤ 9223372036854775807) (hcl : c.length ≤ 9223372036854775807) (hT : Tab w) (hfew : fewL l = true) (hr : (decide (n.size ≤ 40) && decide (d.size ≤ 40)) = true) (h6 : c.length ≤ 6) (h60 : l.length ≤ 60) (s : Mst) (h5 : runE l (c ++ [day]) neg n d (l.length : Int) = (0, s)) (hul : s.uses.length ≤ 1048576) (hwl : s.works.length ≤ 1048576) :
    Calls Tryz.prog 5 #[.slice A l.length cap, .slice A' c.length cap', .int .i64 day, .int .i64 other, .int .i64 further, .agg #[.bool neg, .string n, .string d]] w (Ret w (.bool true)) := by
  have hnot : ∀ (x : Bool) (w : World), (Op.unary .not (.bool x)).run Tryz.prog w = .ok (.bool (!x)) w := fun _ _ => rfl
  have HT := Lib.hid hT
  have HC := Lib.hid hv
  have HI := Lib.hid hc
  clear hT hv hc
  go_enter Tryz.func5, Tryz.ntmps5
  have K : Hid (Blk (w.alloc (.cells #[.bool neg, .string n, .string d] 25)) (w.heap.size) [.bool neg, .string n, .string d] 25) := by
    have := Blk.new w [.bool neg, .string n, .string d] 25
    exact this
  go_wp2_with fail
  refine (sane_any _ (HT.out.below ((Below.refl w.heap.size w).alloc (Below.refl w.heap.size w).size (.cells #[.bool neg, .string n, .string d] 25)))).mono ?_
  rintro e w1 ⟨rfl, hb⟩
  have HB_1 := Lib.hid (((Below.refl w.heap.size w).alloc (Below.refl w.heap.size w).size (.cells #[.bool neg, .string n, .string d] 25)).trans (hb.mono ((Below.refl w.heap.size w).alloc (Below.refl w.heap.size w).size (.cells #[.bool neg, .string n, .string d] 25)).size))
  have C_1 := Lib.hid ((HC.out.below ((Below.refl _ _).alloc (Nat.le_refl _) (.cells #[.bool neg, .string n, .string d] 25))).below hb)
  have I_1 := Lib.hid ((HI.out.below ((Below.refl _ _).alloc (Nat.le_refl _) (.cells #[.bool neg, .string n, .string d] 25))).below hb)
  have K_1 := Lib.hid (K.out.below hb K.out.lt)
  clear hb
  go_wp2_with fail
  refine (few_any _ l _ C_1.out hl).mono ?_
  rw [hfew]
  rintro e w2 ⟨rfl, hb⟩
  have HB_2 := Lib.hid (HB_1.out.trans (hb.mono HB_1.out.size))
  have C_2 := Lib.hid (C_1.out.below hb)
  have I_2 := Lib.hid (I_1.out.below hb)
  have K_2 := Lib.hid (K_1.out.below hb K_1.out.lt)
  clear hb
  obtain ⟨q0, _⟩ := K_2.out.at 0 _ rfl
  obtain ⟨q1, _⟩ := K_2.out.at 1 _ rfl
  obtain ⟨q2, _⟩ := K_2.out.at 2 _ rfl
  have hk := K_2.out.lt
  go_wp2_with fail
  refine (fewR_any neg n d _).mono ?_
  rw [hr]
  rintro e w3 ⟨rfl, hb⟩
  have HB_3 := Lib.hid (HB_2.out.trans (hb.mono HB_2.out.size))
  have C_3 := Lib.hid (C_2.out.below hb)
  have I_3 := Lib.hid (I_2.out.below hb)
  have K_3 := Lib.hid (K_2.out.below hb K_2.out.lt)
  clear hb
  clear q0 q1 q2 hk
  have t1 : decide ((6 : Int) < (c.length : Int)) = false := by simp; omega
  obtain ⟨i0, hi0, hz0, hz1, hz2⟩ := info_parts i64_info
  go_wp2_with (at_builtin; refine wpList_append_any _ rfl _ _ _ rfl w3.heap.size 3 i0 _ 1 8 Tryz.underlying23 hi0 hz0 hz1 hz2 rfl (by omega) (.slice (some ⟨w3.heap.size, 0, none⟩) 0 0) 0 (intC []) rfl ?_ (w3.heap.size + 1) A' c.length cap' (intC c) rfl ?_ ?_ ?_ ?_ ?_ ?_)
  · exact own_empty _ _
  · exact (I_3.out.reads.alloc (Nat.le_refl _) _).more (by omega)
  · exact intC_one c
  · simp only [maxLen]; omega
  · omega
  · simp
  intro v4 w4 hown hg hat
  have hown4 : w4.ownsRow w3.heap.size 3 1 v4 (c).length (intC (c)) := by have := hown; simpa [intC] using this
  have hb4 : Below w3.heap.size w3 w4 := app_below hg
  clear hown hg hat
  obtain ⟨A4, c4, rfl⟩ := owns_slice hown4
  have HO4 := Lib.hid hown4
  have HB4 := Lib.hid hb4
  clear hown4 hb4
  go_wp2_with (at_builtin; refine wpList_append_any _ rfl _ _ _ rfl w3.heap.size 3 i0 _ 1 8 Tryz.underlying23 hi0 hz0 hz1 hz2 rfl (by omega) (.slice A4 (c).length c4) (c).length (intC (c)) rfl ?_ (w4.heap.size + 1) (some ⟨w4.heap.size, 0, none⟩) 1 1 (intC [day]) rfl ?_ ?_ ?_ ?_ ?_ ?_)
  · exact own_alloc HO4.out _
  · exact reads_one _ _ _
  · exact intC_one _
  · (try simp only [List.length_append, List.length_cons, List.length_nil]); simp only [maxLen]; omega
  · (try simp only [List.length_append, List.length_cons, List.length_nil]); omega
  · have := HB4.out.size; simp; omega
  intro v5 w5 hown hg hat
  have hown5 : w5.ownsRow w3.heap.size 3 1 v5 (c ++ [day]).length (intC (c ++ [day])) := by have := hown; simpa [intC] using this
  have hb5 : Below w3.heap.size w3 w5 := app_below2 HB4.out hg (by have := own_base HO4.out; simpa using this)
  clear hown hg hat HO4 HB4
  obtain ⟨nX, hnX⟩ : ∃ n, (c ++ [day]).length = n := ⟨_, rfl⟩
  rw [hnX] at hown5
  obtain ⟨X, cX, rfl⟩ := owns_slice hown5
  have hb := hb5
  have HB_5 := Lib.hid (HB_3.out.trans (hb.mono HB_3.out.size))
  have C_5 := Lib.hid (C_3.out.below hb)
  have I_5 := Lib.hid (I_3.out.below hb)
  have K_5 := Lib.hid (K_3.out.below hb K_3.out.lt)
  have JX_5 := Lib.hid (IntsV.of_own (c := c ++ [day]) (by rw [hnX]; exact hown5))
  clear hnX
  clear hown5 hb5 hb
  go_wp2_with (at_builtin; refine wpList_append_any _ rfl _ _ _ rfl w5.heap.size 3 i0 _ 1 8 Tryz.underlying23 hi0 hz0 hz1 hz2 rfl (by omega) (.slice (some ⟨w5.heap.size, 0, none⟩) 0 0) 0 (intC []) rfl ?_ (w5.heap.size + 1) A' c.length cap' (intC c) rfl ?_ ?_ ?_ ?_ ?_ ?_)
  · exact own_empty _ _
  · exact (I_5.out.reads.alloc (Nat.le_refl _) _).more (by omega)
  · exact intC_one c
  · simp only [maxLen]; omega
  · omega
  · simp
  intro v6 w6 hown hg hat
  have hown6 : w6.ownsRow w5.heap.size 3 1 v6 (c).length (intC (c)) := by have := hown; simpa [intC] using this
  have hb6 : Below w5.heap.size w5 w6 := app_below hg
  clear hown hg hat
  obtain ⟨A6, c6, rfl⟩ := owns_slice hown6
  have HO6 := Lib.hid hown6
  have HB6 := Lib.hid hb6
  clear hown6 hb6
  go_wp2_with (at_builtin; refine wpList_append_any _ rfl _ _ _ rfl w5.heap.size 3 i0 _ 1 8 Tryz.underlying23 hi0 hz0 hz1 hz2 rfl (by omega) (.slice A6 (c).length c6) (c).length (intC (c)) rfl ?_ (w6.heap.size + 1) (some ⟨w6.heap.size, 0, none⟩) 1 1 (intC [other]) rfl ?_ ?_ ?_ ?_ ?_ ?_)
  · exact own_alloc HO6.out _
  · exact reads_one _ _ _
  · exact intC_one _
  · (try simp only [List.length_append, List.length_cons, List.length_nil]); simp only [maxLen]; omega
  · (try simp only [List.length_append, List.length_cons, List.length_nil]); omega
  · have := HB6.out.size; simp; omega
  intro v7 w7 hown hg hat
  have hown7 : w7.ownsRow w5.heap.size 3 1 v7 (c ++ [other]).length (intC (c ++ [other])) := by have := hown; simpa [intC] using this
  have hb7 : Below w5.heap.size w5 w7 := app_below2 HB6.out hg (by have := own_base HO6.out; simpa using this)
  clear hown hg hat HO6 HB6
  obtain ⟨nY, hnY⟩ : ∃ n, (c ++ [other]).length = n := ⟨_, rfl⟩
  rw [hnY] at hown7
  obtain ⟨Y, cY, rfl⟩ := owns_slice hown7
  have hb := hb7
  have HB_7 := Lib.hid (HB_5.out.trans (hb.mono HB_5.out.size))
  have C_7 := Lib.hid (C_5.out.below hb)
  have I_7 := Lib.hid (I_5.out.below hb)
  have K_7 := Lib.hid (K_5.out.below hb K_5.out.lt)
  have JX_7 := Lib.hid (JX_5.out.below hb)
  have JY_7 := Lib.hid (IntsV.of_own (c := c ++ [other]) (by rw [hnY]; exact hown7))
  clear hnY
  clear hown7 hb7 hb
  go_wp2
  go_loopw [62] (fun i wr => ∃ k : Nat, k ≤ l.length ∧ i = .int .i64 k ∧ Hid ((l.take k).all (fun x => !dayB c day other x) = true) ∧ Below w7.heap.size w7 wr) (fun i _ => l.length - (intOf i).toNat)
  case atStart => exact ⟨0, Nat.zero_le _, rfl, by simp [Hid], Below.refl _ _⟩
  case round =>
    obtain ⟨k, hk, rfl, HA, hb⟩ := hrel
    have HLB := Lib.hid hb
    have HB_8 := Lib.hid (HB_7.out.trans (hb.mono HB_7.out.size))
    have C_8 := Lib.hid (C_7.out.below hb)
    have I_8 := Lib.hid (I_7.out.below hb)
    have K_8 := Lib.hid (K_7.out.below hb K_7.out.lt)
    have JX_8 := Lib.hid (JX_7.out.below hb)
    have JY_8 := Lib.hid (JY_7.out.below hb)
    clear hb
    by_cases hlt : k < l.length
    · obtain ⟨x, hx⟩ : ∃ x, l[k]? = some x := ⟨l[k]'hlt, List.getElem?_eq_getElem hlt⟩
      obtain ⟨A2, cap2, e2, hcc⟩ := C_8.out
      cases e2
      rcases hcc with h0 | ⟨b, off, rfl, hc⟩
      · rw [h0] at hx; simp at hx
      obtain ⟨c0, c1, c2, c3, c4, c5⟩ := hc.sp hx
      have HX := Lib.hid hx
      clear hx hc
      by_cases o1 : x.op = 1
      · have z1 : (x.op == 1) = true := by simpa using o1
        by_cases o2 : x.A < 0
        · have z2 : decide (x.A < 0) = true := by simpa using o2
          have z3 : decide ((c.length : Int) ≤ x.A) = false := by simp; omega
          by_cases o3 : x.B ≤ day
          · have z4 : decide (x.B ≤ day) = true := by simpa using o3
            by_cases o4 : x.B ≤ other
            · have z5 : decide (x.B ≤ other) = true := by simpa using o4
              have HD : Hid (dayB c day other x = false) := by show _ = _; simp [dayB, z3, z4, z5]
              go_wp2
              exact ⟨⟨k + 1, by omega, by go_num, day_step HX.out HA.out HD.out, HLB.out.alloc HLB.out.size _⟩, by simp [intOf]; omega⟩
            · have z5 : decide (x.B ≤ other) = false := by simpa using o4
              go_wp2
              go_ret
              exact ⟨rfl, HB_8.out.alloc HB_8.out.size _⟩
          · have z4 : decide (x.B ≤ day) = false := by simpa using o3
            by_cases o4 : x.B ≤ other
            · have z5 : decide (x.B ≤ other) = true := by simpa using o4
              go_wp2
              go_ret
              exact ⟨rfl, HB_8.out.alloc HB_8.out.size _⟩
            · have z5 : decide (x.B ≤ other) = false := by simpa using o4
              have HD : Hid (dayB c day other x = false) := by show _ = _; simp [dayB, z3, z4, z5]
              go_wp2
              exact ⟨⟨k + 1, by omega, by go_num, day_step HX.out HA.out HD.out, HLB.out.alloc HLB.out.size _⟩, by simp [intOf]; omega⟩
        · have z2 : decide (x.A < 0) = false := by simpa using o2
          by_cases o3 : (c.length : Int) ≤ x.A
          · have z3 : decide ((c.length : Int) ≤ x.A) = true := by simpa using o3
            go_wp2
            go_ret
            exact ⟨rfl, HB_8.out.alloc HB_8.out.size _⟩
          · have z3 : decide ((c.length : Int) ≤ x.A) = false := by simpa using o3
            have HD : Hid (dayB c day other x = false) := by show _ = _; simp [dayB, z2, z3]
            go_wp2
            exact ⟨⟨k + 1, by omega, by go_num, day_step HX.out HA.out HD.out, HLB.out.alloc HLB.out.size _⟩, by simp [intOf]; omega⟩
      · have z1 : (x.op == 1) = false := by simpa using o1
        have HD : Hid (dayB c day other x = false) := by show _ = _; simp [dayB, z1]
        go_wp2
        exact ⟨⟨k + 1, by omega, by go_num, day_step HX.out HA.out HD.out, HLB.out.alloc HLB.out.size _⟩, by simp [intOf]; omega⟩
    · skip
      have hk2 : k = l.length := by omega
      subst hk2
      have HDAY := Lib.hid (day_plain l c day other further neg n d (l.length : Int) (day_hyp (by have := HA.out; rwa [List.take_of_length_le (Nat.le_refl _)] at this)))
      go_wp2_with (at_builtin; refine wpList_append_any _ rfl _ _ _ rfl wr.heap.size 3 i0 _ 1 8 Tryz.underlying23 hi0 hz0 hz1 hz2 rfl (by omega) (.slice (some ⟨wr.heap.size, 0, none⟩) 0 0) 0 (intC []) rfl ?_ (wr.heap.size + 1) A' c.length cap' (intC c) rfl ?_ ?_ ?_ ?_ ?_ ?_)
      · exact own_empty _ _
      · exact (I_8.out.reads.alloc (Nat.le_refl _) _).more (by omega)
      · exact intC_one c
      · simp only [maxLen]; omega
      · omega
      · simp
      intro v9 w9 hown hg hat
      have hown9 : w9.ownsRow wr.heap.size 3 1 v9 (c).length (intC (c)) := by have := hown; simpa [intC] using this
      have hb9 : Below wr.heap.size wr w9 := app_below hg
      clear hown hg hat
      obtain ⟨A9, c9, rfl⟩ := owns_slice hown9
      have HO9 := Lib.hid hown9
      have HB9 := Lib.hid hb9
      clear hown9 hb9
      go_wp2_with (at_builtin; refine wpList_append_any _ rfl _ _ _ rfl wr.heap.size 3 i0 _ 1 8 Tryz.underlying23 hi0 hz0 hz1 hz2 rfl (by omega) (.slice A9 (c).length c9) (c).length (intC (c)) rfl ?_ (w9.heap.size + 1) (some ⟨w9.heap.size, 0, none⟩) 1 1 (intC [further]) rfl ?_ ?_ ?_ ?_ ?_ ?_)
      · exact own_alloc HO9.out _
      · exact reads_one _ _ _
      · exact intC_one _
      · (try simp only [List.length_append, List.length_cons, List.length_nil]); simp only [maxLen]; omega
      · (try simp only [List.length_append, List.length_cons, List.length_nil]); omega
      · have := HB9.out.size; simp; omega
      intro v10 w10 hown hg hat
      have hown10 : w10.ownsRow wr.heap.size 3 1 v10 (c ++ [further]).length (intC (c ++ [further])) := by have := hown; simpa [intC] using this
      have hb10 : Below wr.heap.size wr w10 := app_below2 HB9.out hg (by have := own_base HO9.out; simpa using this)
      clear hown hg hat HO9 HB9
      obtain ⟨A10, c10, rfl⟩ := owns_slice hown10
      have HO10 := Lib.hid hown10
      have HB10 := Lib.hid hb10
      clear hown10 hb10
      go_wp2_with (at_builtin; refine wpList_append_any _ rfl _ _ _ rfl wr.heap.size 3 i0 _ 1 8 Tryz.underlying23 hi0 hz0 hz1 hz2 rfl (by omega) (.slice A10 (c ++ [further]).length c10) (c ++ [further]).length (intC (c ++ [further])) rfl ?_ (w10.heap.size + 1) (some ⟨w10.heap.size, 0, none⟩) 1 1 (intC [day]) rfl ?_ ?_ ?_ ?_ ?_ ?_)
      · exact own_alloc HO10.out _
      · exact reads_one _ _ _
      · exact intC_one _
      · (try simp only [List.length_append, List.length_cons, List.length_nil]); simp only [maxLen]; omega
      · (try simp only [List.length_append, List.length_cons, List.length_nil]); omega
      · have := HB10.out.size; simp; omega
      intro v11 w11 hown hg hat
      have hown11 : w11.ownsRow wr.heap.size 3 1 v11 (c ++ [further] ++ [day]).length (intC (c ++ [further] ++ [day])) := by have := hown; simpa [intC] using this
      have hb11 : Below wr.heap.size wr w11 := app_below2 HB10.out hg (by have := own_base HO10.out; simpa using this)
      clear hown hg hat HO10 HB10
      obtain ⟨nZ, hnZ⟩ : ∃ n, (c ++ [further] ++ [day]).length = n := ⟨_, rfl⟩
      rw [hnZ] at hown11
      obtain ⟨Z, cZ, rfl⟩ := owns_slice hown11
      have hb := hb11
      have HB_11 := Lib.hid (HB_8.out.trans (hb.mono HB_8.out.size))
      have C_11 := Lib.hid (C_8.out.below hb)
      have I_11 := Lib.hid (I_8.out.below hb)
      have K_11 := Lib.hid (K_8.out.below hb K_8.out.lt)
      have JX_11 := Lib.hid (JX_8.out.below hb)
      have JY_11 := Lib.hid (JY_8.out.below hb)
      have JZ_11 := Lib.hid (IntsV.of_own (c := c ++ [further] ++ [day]) (by rw [hnZ]; exact hown11))
      clear hnZ
      clear hown11 hb11 hb
      have h6 := HDAY.out.1.trans h5
      have h7 := HDAY.out.2.trans h5
      clear HDAY
      have H5 := Lib.hid h5
      have H6 := Lib.hid h6
      have H7 := Lib.hid h7
      clear h5 h6 h7 hlt hk
      obtain ⟨q0, _⟩ := K_11.out.at 0 _ rfl
      obtain ⟨q1, _⟩ := K_11.out.at 1 _ rfl
      obtain ⟨q2, _⟩ := K_11.out.at 2 _ rfl
      have hk := K_11.out.lt
      go_wp2_with fail
      refine (Run_any _ _ l (c ++ [day]) neg n d (l.length : Int) _ C_11.out (by omega) JX_11.out (by simp; omega) (by omega) (HT.out.below HB_11.out)).mono ?_
      rw [H5.out]
      rintro e w12 ⟨hb, hr⟩
      have HB_12 := Lib.hid (HB_11.out.trans (hb.mono HB_11.out.size))
      have C_12 := Lib.hid (C_11.out.below hb)
      have I_12 := Lib.hid (I_11.out.below hb)
      have K_12 := Lib.hid (K_11.out.below hb K_11.out.lt)
      have JX_12 := Lib.hid (JX_11.out.below hb)
      have JY_12 := Lib.hid (JY_11.out.below hb)
      have JZ_12 := Lib.hid (JZ_11.out.below hb)
      clear q0 q1 q2 hk
      obtain ⟨u1, v1, rfl, hu, hw⟩ : ∃ uv wv, e = .returned (.tuple #[uv, wv, .int .i64 s.lead, .int .i64 (s.fuel : Int), .int .i64 0]) ∧ _ ∧ _ := hr.elim (fun h => h.2) (fun h => absurd rfl h.1)
      have U1_12 := Lib.hid (UsesV.of_owns (us := s.uses) hu)
      have V1_12 := Lib.hid (WorksV.of_owns (us := s.works) hw)
      clear hr hu hw
      clear hb
      obtain ⟨q0, _⟩ := K_12.out.at 0 _ rfl
      obtain ⟨q1, _⟩ := K_12.out.at 1 _ rfl
      obtain ⟨q2, _⟩ := K_12.out.at 2 _ rfl
      have hk := K_12.out.lt
      go_wp2_with fail
      refine (Run_any _ _ l (c ++ [other]) neg n d (l.length : Int) _ C_12.out (by omega) JY_12.out (by simp; omega) (by omega) (HT.out.below HB_12.out)).mono ?_
      rw [H6.out]
      rintro e w13 ⟨hb, hr⟩
      have HB_13 := Lib.hid (HB_12.out.trans (hb.mono HB_12.out.size))
      have C_13 := Lib.hid (C_12.out.below hb)
      have I_13 := Lib.hid (I_12.out.below hb)
      have K_13 := Lib.hid (K_12.out.below hb K_12.out.lt)
      have JX_13 := Lib.hid (JX_12.out.below hb)
      have JY_13 := Lib.hid (JY_12.out.below hb)
      have JZ_13 := Lib.hid (JZ_12.out.below hb)
      have U1_13 := Lib.hid (U1_12.out.below hb)
      have V1_13 := Lib.hid (V1_12.out.below hb)
      clear q0 q1 q2 hk
      obtain ⟨u2, v2, rfl, hu, hw⟩ : ∃ uv wv, e = .returned (.tuple #[uv, wv, .int .i64 s.lead, .int .i64 (s.fuel : Int), .int .i64 0]) ∧ _ ∧ _ := hr.elim (fun h => h.2) (fun h => absurd rfl h.1)
      have U2_13 := Lib.hid (UsesV.of_owns (us := s.uses) hu)
      have V2_13 := Lib.hid (WorksV.of_owns (us := s.works) hw)
      clear hr hu hw
      clear hb
      obtain ⟨q0, _⟩ := K_13.out.at 0 _ rfl
      obtain ⟨q1, _⟩ := K_13.out.at 1 _ rfl
      obtain ⟨q2, _⟩ := K_13.out.at 2 _ rfl
      have hk := K_13.out.lt
      go_wp2_with fail
      refine (Run_any _ _ l (c ++ [further] ++ [day]) neg n d (l.length : Int) _ C_13.out (by omega) JZ_13.out (by simp; omega) (by omega) (HT.out.below HB_13.out)).mono ?_
      rw [H7.out]
      rintro e w14 ⟨hb, hr⟩
      have HB_14 := Lib.hid (HB_13.out.trans (hb.mono HB_13.out.size))
      have C_14 := Lib.hid (C_13.out.below hb)
      have I_14 := Lib.hid (I_13.out.below hb)
      have K_14 := Lib.hid (K_13.out.below hb K_13.out.lt)
      have JX_14 := Lib.hid (JX_13.out.below hb)
      have JY_14 := Lib.hid (JY_13.out.below hb)
      have JZ_14 := Lib.hid (JZ_13.out.below hb)
      have U1_14 := Lib.hid (U1_13.out.below hb)
      have V1_14 := Lib.hid (V1_13.out.below hb)
      have U2_14 := Lib.hid (U2_13.out.below hb)
      have V2_14 := Lib.hid (V2_13.out.below hb)
      clear q0 q1 q2 hk
      obtain ⟨u3, v3, rfl, hu, hw⟩ : ∃ uv wv, e = .returned (.tuple #[uv, wv, .int .i64 s.lead, .int .i64 (s.fuel : Int), .int .i64 0]) ∧ _ ∧ _ := hr.elim (fun h => h.2) (fun h => absurd rfl h.1)
      have U3_14 := Lib.hid (UsesV.of_owns (us := s.uses) hu)
      have V3_14 := Lib.hid (WorksV.of_owns (us := s.works) hw)
      clear hr hu hw
      clear hb
      go_wp2_with fail
      refine (sameUses_yes _ _ s.uses _ U1_14.out U2_14.out hul).mono ?_
      rintro e w15 ⟨rfl, hb⟩
      have HB_15 := Lib.hid (HB_14.out.trans (hb.mono HB_14.out.size))
      have C_15 := Lib.hid (C_14.out.below hb)
      have I_15 := Lib.hid (I_14.out.below hb)
      have K_15 := Lib.hid (K_14.out.below hb K_14.out.lt)
      have JX_15 := Lib.hid (JX_14.out.below hb)
      have JY_15 := Lib.hid (JY_14.out.below hb)
      have JZ_15 := Lib.hid (JZ_14.out.below hb)
      have U1_15 := Lib.hid (U1_14.out.below hb)
      have V1_15 := Lib.hid (V1_14.out.below hb)
      have U2_15 := Lib.hid (U2_14.out.below hb)
      have V2_15 := Lib.hid (V2_14.out.below hb)
      have U3_15 := Lib.hid (U3_14.out.below hb)
      have V3_15 := Lib.hid (V3_14.out.below hb)
      clear hb
      go_wp2_with fail
      refine (sameUses_yes _ _ s.uses _ U1_15.out U3_15.out hul).mono ?_
      rintro e w16 ⟨rfl, hb⟩
      have HB_16 := Lib.hid (HB_15.out.trans (hb.mono HB_15.out.size))
      have C_16 := Lib.hid (C_15.out.below hb)
      have I_16 := Lib.hid (I_15.out.below hb)
      have K_16 := Lib.hid (K_15.out.below hb K_15.out.lt)
      have JX_16 := Lib.hid (JX_15.out.below hb)
      have JY_16 := Lib.hid (JY_15.out.below hb)
      have JZ_16 := Lib.hid (JZ_15.out.below hb)
      have U1_16 := Lib.hid (U1_15.out.below hb)
      have V1_16 := Lib.hid (V1_15.out.below hb)
      have U2_16 := Lib.hid (U2_15.out.below hb)
      have V2_16 := Lib.hid (V2_15.out.below hb)
      have U3_16 := Lib.hid (U3_15.out.below hb)
      have V3_16 := Lib.hid (V3_15.out.below hb)
      clear hb
      go_wp2_with fail
      refine (sameWork_yes _ _ s.works _ V1_16.out V2_16.out hwl).mono ?_
      rintro e w17 ⟨rfl, hb⟩
      have HB_17 := Lib.hid (HB_16.out.trans (hb.mono HB_16.out.size))
      have C_17 := Lib.hid (C_16.out.below hb)
      have I_17 := Lib.hid (I_16.out.below hb)
      have K_17 := Lib.hid (K_16.out.below hb K_16.out.lt)
      have JX_17 := Lib.hid (JX_16.out.below hb)
      have JY_17 := Lib.hid (JY_16.out.below hb)
      have JZ_17 := Lib.hid (JZ_16.out.below hb)
      have U1_17 := Lib.hid (U1_16.out.below hb)
      have V1_17 := Lib.hid (V1_16.out.below hb)
      have U2_17 := Lib.hid (U2_16.out.below hb)
      have V2_17 := Lib.hid (V2_16.out.below hb)
      have U3_17 := Lib.hid (U3_16.out.below hb)
      have V3_17 := Lib.hid (V3_16.out.below hb)
      clear hb
      go_wp2_with fail
      refine (sameWork_yes _ _ s.works _ V1_17.out V3_17.out hwl).mono ?_
      rintro e w18 ⟨rfl, hb⟩
      have HB_18 := Lib.hid (HB_17.out.trans (hb.mono HB_17.out.size))
      have C_18 := Lib.hid (C_17.out.below hb)
      have I_18 := Lib.hid (I_17.out.below hb)
      have K_18 := Lib.hid (K_17.out.below hb K_17.out.lt)
      have JX_18 := Lib.hid (JX_17.out.below hb)
      have JY_18 := Lib.hid (JY_17.out.below hb)
      have JZ_18 := Lib.hid (JZ_17.out.below hb)
      have U1_18 := Lib.hid (U1_17.out.below hb)
      have V1_18 := Lib.hid (V1_17.out.below hb)
      have U2_18 := Lib.hid (U2_17.out.below hb)
      have V2_18 := Lib.hid (V2_17.out.below hb)
      have U3_18 := Lib.hid (U3_17.out.below hb)
      have V3_18 := Lib.hid (V3_17.out.below hb)
      clear hb
      go_wp2
      go_ret
      exact ⟨rfl, HB_18.out⟩

/-- MachineDay returns true. -/
theorem MachineDay_any (v cv : Value) (l : List In) (c : List Int) (day other further : Int) (neg : Bool) (n d : ByteArray) (w : World) (hv : CodeV w v l) (hc : IntsV w cv c) (hl : l.length ≤ 9223372036854775807) (hcl : c.length ≤ 9223372036854775807) (hT : Tab w) :
    Calls Tryz.prog 5 #[v, cv, .int .i64 day, .int .i64 other, .int .i64 further, .agg #[.bool neg, .string n, .string d]] w (Ret w (.bool true)) := by
  obtain ⟨A, cap, e1, _⟩ := id hv
  obtain ⟨A', cap', e2, _⟩ := id hc
  subst e1 e2
  cases hfew : fewL l with
  | false => exact day_few A A' cap cap' l c day other further neg n d w hv hc hl hcl hT hfew
  | true =>
    have h60 : l.length ≤ 60 := by
      unfold fewL at hfew
      simp at hfew
      exact hfew.2
    cases hr : (decide (n.size ≤ 40) && decide (d.size ≤ 40)) with
    | false => exact day_ratio A A' cap cap' l c day other further neg n d w hv hc hl hcl hT hfew hr
    | true =>
      by_cases h6 : 6 < c.length
      · exact day_long A A' cap cap' l c day other further neg n d w hv hc hl hcl hT hfew hr h6
      obtain ⟨u1, u2⟩ := runE_len l (c ++ [day]) neg n d (l.length : Int)
      by_cases h0 : (runE l (c ++ [day]) neg n d (l.length : Int)).1 = 0
      · exact day_good A A' cap cap' l c day other further neg n d w hv hc hl hcl hT hfew hr (by omega) h60 (runE l (c ++ [day]) neg n d (l.length : Int)).2 (Prod.ext h0 rfl) (by omega) (by omega)
      · exact day_err A A' cap cap' l c day other further neg n d w hv hc hl hcl hT hfew hr (by omega) h60 _ h0 rfl
end Go.Proofs.YtiohceaddojedaaGreatDoor
