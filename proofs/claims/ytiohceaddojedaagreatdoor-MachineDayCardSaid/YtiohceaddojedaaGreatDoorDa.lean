/- The walk of MachineDay: the guards. -/
import Derived.Test.YtiohceaddojedaaGreatDoorFb
namespace Go.Proofs.YtiohceaddojedaaGreatDoor
open Go.RowKit Bf

set_option maxRecDepth 100000 in
set_option maxHeartbeats 8000000 in
theorem day_few (A A' : Option Addr) (cap cap' : Nat) (l : List In) (c : List Int) (day other further : Int) (neg : Bool) (n d : ByteArray) (w : World) (hv : CodeV w (.slice A l.length cap) l) (hc : IntsV w (.slice A' c.length cap') c) (hl : l.length ≤ 9223372036854775807) (_hcl : c.length ≤ 9223372036854775807) (hT : Tab w) (hfew : fewL l = false) :
    Calls Tryz.prog 5 #[.slice A l.length cap, .slice A' c.length cap', .int .i64 day, .int .i64 other, .int .i64 further, .agg #[.bool neg, .string n, .string d]] w (Ret w (.bool true)) := by
  have hnot : ∀ (x : Bool) (w : World), (Op.unary .not (.bool x)).run Tryz.prog w = .ok (.bool (!x)) w := fun _ _ => rfl
  have HT := Lib.hid hT
  have HC := Lib.hid hv
  have HI := Lib.hid hc
  clear hT hv hc
  go_enter Tryz.func5, Tryz.ntmps5
  have K : Hid (Blk (w.alloc (.cells #[.bool neg, .string n, .string d] 25)) (w.heap.size) [.bool neg, .string n, .string d] 25) := by
    have := Blk.new w [.bool neg, .string n, .string d] 25
    exact this
  go_wp2_with fail
  refine (sane_any _ (HT.out.below ((Below.refl w.heap.size w).alloc (Below.refl w.heap.size w).size (.cells #[.bool neg, .string n, .string d] 25)))).mono ?_
  rintro e w1 ⟨rfl, hb⟩
  have HB_1 := Lib.hid (((Below.refl w.heap.size w).alloc (Below.refl w.heap.size w).size (.cells #[.bool neg, .string n, .string d] 25)).trans (hb.mono ((Below.refl w.heap.size w).alloc (Below.refl w.heap.size w).size (.cells #[.bool neg, .string n, .string d] 25)).size))
  have C_1 := Lib.hid ((HC.out.below ((Below.refl _ _).alloc (Nat.le_refl _) (.cells #[.bool neg, .string n, .string d] 25))).below hb)
  have I_1 := Lib.hid ((HI.out.below ((Below.refl _ _).alloc (Nat.le_refl _) (.cells #[.bool neg, .string n, .string d] 25))).below hb)
  have K_1 := Lib.hid (K.out.below hb K.out.lt)
  clear hb
  go_wp2_with fail
  refine (few_any _ l _ C_1.out hl).mono ?_
  rw [hfew]
  rintro e w2 ⟨rfl, hb⟩
  have HB_2 := Lib.hid (HB_1.out.trans (hb.mono HB_1.out.size))
  have C_2 := Lib.hid (C_1.out.below hb)
  have I_2 := Lib.hid (I_1.out.below hb)
  have K_2 := Lib.hid (K_1.out.below hb K_1.out.lt)
  clear hb
  go_wp2
  go_ret
  exact ⟨rfl, HB_2.out⟩

set_option maxRecDepth 100000 in
set_option maxHeartbeats 8000000 in
theorem day_ratio (A A' : Option Addr) (cap cap' : Nat) (l : List In) (c : List Int) (day other further : Int) (neg : Bool) (n d : ByteArray) (w : World) (hv : CodeV w (.slice A l.length cap) l) (hc : IntsV w (.slice A' c.length cap') c) (hl : l.length ≤ 9223372036854775807) (_hcl : c.length ≤ 9223372036854775807) (hT : Tab w) (hfew : fewL l = true) (hr : (decide (n.size ≤ 40) && decide (d.size ≤ 40)) = false) :
    Calls Tryz.prog 5 #[.slice A l.length cap, .slice A' c.length cap', .int .i64 day, .int .i64 other, .int .i64 further, .agg #[.bool neg, .string n, .string d]] w (Ret w (.bool true)) := by
  have hnot : ∀ (x : Bool) (w : World), (Op.unary .not (.bool x)).run Tryz.prog w = .ok (.bool (!x)) w := fun _ _ => rfl
  have HT := Lib.hid hT
  have HC := Lib.hid hv
  have HI := Lib.hid hc
  clear hT hv hc
  go_enter Tryz.func5, Tryz.ntmps5
  have K : Hid (Blk (w.alloc (.cells #[.bool neg, .string n, .string d] 25)) (w.heap.size) [.bool neg, .string n, .string d] 25) := by
    have := Blk.new w [.bool neg, .string n, .string d] 25
    exact this
  go_wp2_with fail
  refine (sane_any _ (HT.out.below ((Below.refl w.heap.size w).alloc (Below.refl w.heap.size w).size (.cells #[.bool neg, .string n, .string d] 25)))).mono ?_
  rintro e w1 ⟨rfl, hb⟩
  have HB_1 := Lib.hid (((Below.refl w.heap.size w).alloc (Below.refl w.heap.size w).size (.cells #[.bool neg, .string n, .string d] 25)).trans (hb.mono ((Below.refl w.heap.size w).alloc (Below.refl w.heap.size w).size (.cells #[.bool neg, .string n, .string d] 25)).size))
  have C_1 := Lib.hid ((HC.out.below ((Below.refl _ _).alloc (Nat.le_refl _) (.cells #[.bool neg, .string n, .string d] 25))).below hb)
  have I_1 := Lib.hid ((HI.out.below ((Below.refl _ _).alloc (Nat.le_refl _) (.cells #[.bool neg, .string n, .string d] 25))).below hb)
  have K_1 := Lib.hid (K.out.below hb K.out.lt)
  clear hb
  go_wp2_with fail
  refine (few_any _ l _ C_1.out hl).mono ?_
  rw [hfew]
  rintro e w2 ⟨rfl, hb⟩
  have HB_2 := Lib.hid (HB_1.out.trans (hb.mono HB_1.out.size))
  have C_2 := Lib.hid (C_1.out.below hb)
  have I_2 := Lib.hid (I_1.out.below hb)
  have K_2 := Lib.hid (K_1.out.below hb K_1.out.lt)
  clear hb
  obtain ⟨q0, _⟩ := K_2.out.at 0 _ rfl
  obtain ⟨q1, _⟩ := K_2.out.at 1 _ rfl
  obtain ⟨q2, _⟩ := K_2.out.at 2 _ rfl
  have hk := K_2.out.lt
  go_wp2_with fail
  refine (fewR_any neg n d _).mono ?_
  rw [hr]
  rintro e w3 ⟨rfl, hb⟩
  have HB_3 := Lib.hid (HB_2.out.trans (hb.mono HB_2.out.size))
  have C_3 := Lib.hid (C_2.out.below hb)
  have I_3 := Lib.hid (I_2.out.below hb)
  have K_3 := Lib.hid (K_2.out.below hb K_2.out.lt)
  clear hb
  clear q0 q1 q2 hk
  go_wp2
  go_ret
  exact ⟨rfl, HB_3.out⟩

set_option maxRecDepth 100000 in
set_option maxHeartbeats 8000000 in
theorem day_long (A A' : Option Addr) (cap cap' : Nat) (l : List In) (c : List Int) (day other further : Int) (neg : Bool) (n d : ByteArray) (w : World) (hv : CodeV w (.slice A l.length cap) l) (hc : IntsV w (.slice A' c.length cap') c) (hl : l.length ≤ 9223372036854775807) (hcl : c.length ≤ 9223372036854775807) (hT : Tab w) (hfew : fewL l = true) (hr : (decide (n.size ≤ 40) && decide (d.size ≤ 40)) = true) (h6 : 6 < c.length) :
    Calls Tryz.prog 5 #[.slice A l.length cap, .slice A' c.length cap', .int .i64 day, .int .i64 other, .int .i64 further, .agg #[.bool neg, .string n, .string d]] w (Ret w (.bool true)) := by
  have hnot : ∀ (x : Bool) (w : World), (Op.unary .not (.bool x)).run Tryz.prog w = .ok (.bool (!x)) w := fun _ _ => rfl
  have HT := Lib.hid hT
  have HC := Lib.hid hv
  have HI := Lib.hid hc
  clear hT hv hc
  go_enter Tryz.func5, Tryz.ntmps5
  have K : Hid (Blk (w.alloc (.cells #[.bool neg, .string n, .string d] 25)) (w.heap.size) [.bool neg, .string n, .string d] 25) := by
    have := Blk.new w [.bool neg, .string n, .string d] 25
    exact this
  go_wp2_with fail
  refine (sane_any _ (HT.out.below ((Below.refl w.heap.size w).alloc (Below.refl w.heap.size w).size (.cells #[.bool neg, .string n, .string d] 25)))).mono ?_
  rintro e w1 ⟨rfl, hb⟩
  have HB_1 := Lib.hid (((Below.refl w.heap.size w).alloc (Below.refl w.heap.size w).size (.cells #[.bool neg, .string n, .string d] 25)).trans (hb.mono ((Below.refl w.heap.size w).alloc (Below.refl w.heap.size w).size (.cells #[.bool neg, .string n, .string d] 25)).size))
  have C_1 := Lib.hid ((HC.out.below ((Below.refl _ _).alloc (Nat.le_refl _) (.cells #[.bool neg, .string n, .string d] 25))).below hb)
  have I_1 := Lib.hid ((HI.out.below ((Below.refl _ _).alloc (Nat.le_refl _) (.cells #[.bool neg, .string n, .string d] 25))).below hb)
  have K_1 := Lib.hid (K.out.below hb K.out.lt)
  clear hb
  go_wp2_with fail
  refine (few_any _ l _ C_1.out hl).mono ?_
  rw [hfew]
  rintro e w2 ⟨rfl, hb⟩
  have HB_2 := Lib.hid (HB_1.out.trans (hb.mono HB_1.out.size))
  have C_2 := Lib.hid (C_1.out.below hb)
  have I_2 := Lib.hid (I_1.out.below hb)
  have K_2 := Lib.hid (K_1.out.below hb K_1.out.lt)
  clear hb
  obtain ⟨q0, _⟩ := K_2.out.at 0 _ rfl
  obtain ⟨q1, _⟩ := K_2.out.at 1 _ rfl
  obtain ⟨q2, _⟩ := K_2.out.at 2 _ rfl
  have hk := K_2.out.lt
  go_wp2_with fail
  refine (fewR_any neg n d _).mono ?_
  rw [hr]
  rintro e w3 ⟨rfl, hb⟩
  have HB_3 := Lib.hid (HB_2.out.trans (hb.mono HB_2.out.size))
  have C_3 := Lib.hid (C_2.out.below hb)
  have I_3 := Lib.hid (I_2.out.below hb)
  have K_3 := Lib.hid (K_2.out.below hb K_2.out.lt)
  clear hb
  clear q0 q1 q2 hk
  have t1 : decide ((6 : Int) < (c.length : Int)) = true := by simp; omega
  go_wp2
  go_ret
  exact ⟨rfl, HB_3.out⟩

end Go.Proofs.YtiohceaddojedaaGreatDoor
