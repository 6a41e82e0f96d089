/- The walk of MachineRunSpec. -/
import Derived.Test.YtoolanjbmbcaiaaGreatDoorGf
import Derived.Test.YtoolanjbmbcaiaaGreatDoorLn
import Derived.Test.YtoolanjbmbcaiaaGreatDoorQs
namespace Go.Proofs.YtoolanjbmbcaiaaGreatDoor
open Go.RowKit Bf

set_option maxRecDepth 100000 in
set_option maxHeartbeats 8000000 in
theorem spec_few (A A' : Option Addr) (cap cap' : Nat) (l : List In) (c : List Int) (neg : Bool) (n d : ByteArray) (fuel : Int) (w : World) (hv : CodeV w (.slice A l.length cap) l) (hc : IntsV w (.slice A' c.length cap') c) (hl : l.length ≤ 9223372036854775807) (hT : Tab w) (hfew : fewL l = false) :
    Calls Tryz.prog 3 #[.slice A l.length cap, .slice A' c.length cap', .agg #[.bool neg, .string n, .string d], .int .i64 fuel] w (Ret w (.bool true)) := by
  have hnot : ∀ (x : Bool) (w : World), (Op.unary .not (.bool x)).run Tryz.prog w = .ok (.bool (!x)) w := fun _ _ => rfl
  have HT := Lib.hid hT
  have HC := Lib.hid hv
  have HI := Lib.hid hc
  clear hT hv hc
  go_enter Tryz.func3, Tryz.ntmps3
  have K : Hid (Blk (w.alloc (.cells #[.bool neg, .string n, .string d] 25)) (w.heap.size) [.bool neg, .string n, .string d] 25) := by
    have := Blk.new w [.bool neg, .string n, .string d] 25
    exact this
  go_wp2_with fail
  refine (sane_any _ (HT.out.below ((Below.refl w.heap.size w).alloc (Below.refl w.heap.size w).size (.cells #[.bool neg, .string n, .string d] 25)))).mono ?_
  rintro e w1 ⟨rfl, hb⟩
  have HB_1 := Lib.hid (((Below.refl w.heap.size w).alloc (Below.refl w.heap.size w).size (.cells #[.bool neg, .string n, .string d] 25)).trans (hb.mono ((Below.refl w.heap.size w).alloc (Below.refl w.heap.size w).size (.cells #[.bool neg, .string n, .string d] 25)).size))
  have C_1 := Lib.hid ((HC.out.below ((Below.refl _ _).alloc (Nat.le_refl _) (.cells #[.bool neg, .string n, .string d] 25))).below hb)
  have I_1 := Lib.hid ((HI.out.below ((Below.refl _ _).alloc (Nat.le_refl _) (.cells #[.bool neg, .string n, .string d] 25))).below hb)
  have K_1 := Lib.hid (K.out.below hb K.out.lt)
  clear hb
  go_wp2_with fail
  refine (few_any _ l _ C_1.out hl).mono ?_
  rw [hfew]
  rintro e w2 ⟨rfl, hb⟩
  have HB_2 := Lib.hid (HB_1.out.trans (hb.mono HB_1.out.size))
  have C_2 := Lib.hid (C_1.out.below hb)
  have I_2 := Lib.hid (I_1.out.below hb)
  have K_2 := Lib.hid (K_1.out.below hb K_1.out.lt)
  clear hb
  go_wp2
  go_ret
  exact ⟨rfl, HB_2.out⟩

set_option maxRecDepth 100000 in
set_option maxHeartbeats 8000000 in
theorem spec_ratio (A A' : Option Addr) (cap cap' : Nat) (l : List In) (c : List Int) (neg : Bool) (n d : ByteArray) (fuel : Int) (w : World) (hv : CodeV w (.slice A l.length cap) l) (hc : IntsV w (.slice A' c.length cap') c) (hl : l.length ≤ 9223372036854775807) (hT : Tab w) (hfew : fewL l = true) (hr : (decide (n.size ≤ 40) && decide (d.size ≤ 40)) = false) :
    Calls Tryz.prog 3 #[.slice A l.length cap, .slice A' c.length cap', .agg #[.bool neg, .string n, .string d], .int .i64 fuel] w (Ret w (.bool true)) := by
  have hnot : ∀ (x : Bool) (w : World), (Op.unary .not (.bool x)).run Tryz.prog w = .ok (.bool (!x)) w := fun _ _ => rfl
  have HT := Lib.hid hT
  have HC := Lib.hid hv
  have HI := Lib.hid hc
  clear hT hv hc
  go_enter Tryz.func3, Tryz.ntmps3
  have K : Hid (Blk (w.alloc (.cells #[.bool neg, .string n, .string d] 25)) (w.heap.size) [.bool neg, .string n, .string d] 25) := by
    have := Blk.new w [.bool neg, .string n, .string d] 25
    exact this
  go_wp2_with fail
  refine (sane_any _ (HT.out.below ((Below.refl w.heap.size w).alloc (Below.refl w.heap.size w).size (.cells #[.bool neg, .string n, .string d] 25)))).mono ?_
  rintro e w1 ⟨rfl, hb⟩
  have HB_1 := Lib.hid (((Below.refl w.heap.size w).alloc (Below.refl w.heap.size w).size (.cells #[.bool neg, .string n, .string d] 25)).trans (hb.mono ((Below.refl w.heap.size w).alloc (Below.refl w.heap.size w).size (.cells #[.bool neg, .string n, .string d] 25)).size))
  have C_1 := Lib.hid ((HC.out.below ((Below.refl _ _).alloc (Nat.le_refl _) (.cells #[.bool neg, .string n, .string d] 25))).below hb)
  have I_1 := Lib.hid ((HI.out.below ((Below.refl _ _).alloc (Nat.le_refl _) (.cells #[.bool neg, .string n, .string d] 25))).below hb)
  have K_1 := Lib.hid (K.out.below hb K.out.lt)
  clear hb
  go_wp2_with fail
  refine (few_any _ l _ C_1.out hl).mono ?_
  rw [hfew]
  rintro e w2 ⟨rfl, hb⟩
  have HB_2 := Lib.hid (HB_1.out.trans (hb.mono HB_1.out.size))
  have C_2 := Lib.hid (C_1.out.below hb)
  have I_2 := Lib.hid (I_1.out.below hb)
  have K_2 := Lib.hid (K_1.out.below hb K_1.out.lt)
  clear hb
  obtain ⟨q0, _⟩ := K_2.out.at 0 _ rfl
  obtain ⟨q1, _⟩ := K_2.out.at 1 _ rfl
  obtain ⟨q2, _⟩ := K_2.out.at 2 _ rfl
  have hk := K_2.out.lt
  go_wp2_with fail
  refine (fewR_any neg n d _).mono ?_
  rw [hr]
  rintro e w3 ⟨rfl, hb⟩
  have HB_3 := Lib.hid (HB_2.out.trans (hb.mono HB_2.out.size))
  have C_3 := Lib.hid (C_2.out.below hb)
  have I_3 := Lib.hid (I_2.out.below hb)
  have K_3 := Lib.hid (K_2.out.below hb K_2.out.lt)
  clear hb
  clear q0 q1 q2 hk
  go_wp2
  go_ret
  exact ⟨rfl, HB_3.out⟩

set_option maxRecDepth 100000 in
set_option maxHeartbeats 8000000 in
theorem spec_long (A A' : Option Addr) (cap cap' : Nat) (l : List In) (c : List Int) (neg : Bool) (n d : ByteArray) (fuel : Int) (w : World) (hv : CodeV w (.slice A l.length cap) l) (hc : IntsV w (.slice A' c.length cap') c) (hl : l.length ≤ 9223372036854775807) (hT : Tab w) (hfew : fewL l = true) (hr : (decide (n.size ≤ 40) && decide (d.size ≤ 40)) = true) (h12 : 12 < c.length) :
    Calls Tryz.prog 3 #[.slice A l.length cap, .slice A' c.length cap', .agg #[.bool neg, .string n, .string d], .int .i64 fuel] w (Ret w (.bool true)) := by
  have hnot : ∀ (x : Bool) (w : World), (Op.unary .not (.bool x)).run Tryz.prog w = .ok (.bool (!x)) w := fun _ _ => rfl
  have HT := Lib.hid hT
  have HC := Lib.hid hv
  have HI := Lib.hid hc
  clear hT hv hc
  go_enter Tryz.func3, Tryz.ntmps3
  have K : Hid (Blk (w.alloc (.cells #[.bool neg, .string n, .string d] 25)) (w.heap.size) [.bool neg, .string n, .string d] 25) := by
    have := Blk.new w [.bool neg, .string n, .string d] 25
    exact this
  go_wp2_with fail
  refine (sane_any _ (HT.out.below ((Below.refl w.heap.size w).alloc (Below.refl w.heap.size w).size (.cells #[.bool neg, .string n, .string d] 25)))).mono ?_
  rintro e w1 ⟨rfl, hb⟩
  have HB_1 := Lib.hid (((Below.refl w.heap.size w).alloc (Below.refl w.heap.size w).size (.cells #[.bool neg, .string n, .string d] 25)).trans (hb.mono ((Below.refl w.heap.size w).alloc (Below.refl w.heap.size w).size (.cells #[.bool neg, .string n, .string d] 25)).size))
  have C_1 := Lib.hid ((HC.out.below ((Below.refl _ _).alloc (Nat.le_refl _) (.cells #[.bool neg, .string n, .string d] 25))).below hb)
  have I_1 := Lib.hid ((HI.out.below ((Below.refl _ _).alloc (Nat.le_refl _) (.cells #[.bool neg, .string n, .string d] 25))).below hb)
  have K_1 := Lib.hid (K.out.below hb K.out.lt)
  clear hb
  go_wp2_with fail
  refine (few_any _ l _ C_1.out hl).mono ?_
  rw [hfew]
  rintro e w2 ⟨rfl, hb⟩
  have HB_2 := Lib.hid (HB_1.out.trans (hb.mono HB_1.out.size))
  have C_2 := Lib.hid (C_1.out.below hb)
  have I_2 := Lib.hid (I_1.out.below hb)
  have K_2 := Lib.hid (K_1.out.below hb K_1.out.lt)
  clear hb
  obtain ⟨q0, _⟩ := K_2.out.at 0 _ rfl
  obtain ⟨q1, _⟩ := K_2.out.at 1 _ rfl
  obtain ⟨q2, _⟩ := K_2.out.at 2 _ rfl
  have hk := K_2.out.lt
  go_wp2_with fail
  refine (fewR_any neg n d _).mono ?_
  rw [hr]
  rintro e w3 ⟨rfl, hb⟩
  have HB_3 := Lib.hid (HB_2.out.trans (hb.mono HB_2.out.size))
  have C_3 := Lib.hid (C_2.out.below hb)
  have I_3 := Lib.hid (I_2.out.below hb)
  have K_3 := Lib.hid (K_2.out.below hb K_2.out.lt)
  clear hb
  clear q0 q1 q2 hk
  have t1 : decide ((12 : Int) < (c.length : Int)) = true := by simp; omega
  go_wp2
  go_ret
  exact ⟨rfl, HB_3.out⟩

set_option maxRecDepth 100000 in
set_option maxHeartbeats 8000000 in
theorem spec_err (A A' : Option Addr) (cap cap' : Nat) (l : List In) (c : List Int) (neg : Bool) (n d : ByteArray) (fuel : Int) (w : World) (hv : CodeV w (.slice A l.length cap) l) (hc : IntsV w (.slice A' c.length cap') c) (hl : l.length ≤ 9223372036854775807) (hT : Tab w) (hfew : fewL l = true) (hr : (decide (n.size ≤ 40) && decide (d.size ≤ 40)) = true) (h12 : c.length ≤ 12) (h60 : l.length ≤ 60) (hf : fuel < 9223372036854775808) (r : Int) (h0 : r ≠ 0) (H5 : Hid ((runE l c neg n d fuel).1 = r)) :
    Calls Tryz.prog 3 #[.slice A l.length cap, .slice A' c.length cap', .agg #[.bool neg, .string n, .string d], .int .i64 fuel] w (Ret w (.bool true)) := by
  have hnot : ∀ (x : Bool) (w : World), (Op.unary .not (.bool x)).run Tryz.prog w = .ok (.bool (!x)) w := fun _ _ => rfl
  have HT := Lib.hid hT
  have HC := Lib.hid hv
  have HI := Lib.hid hc
  clear hT hv hc
  go_enter Tryz.func3, Tryz.ntmps3
  have K : Hid (Blk (w.alloc (.cells #[.bool neg, .string n, .string d] 25)) (w.heap.size) [.bool neg, .string n, .string d] 25) := by
    have := Blk.new w [.bool neg, .string n, .string d] 25
    exact this
  go_wp2_with fail
  refine (sane_any _ (HT.out.below ((Below.refl w.heap.size w).alloc (Below.refl w.heap.size w).size (.cells #[.bool neg, .string n, .string d] 25)))).mono ?_
  rintro e w1 ⟨rfl, hb⟩
  have HB_1 := Lib.hid (((Below.refl w.heap.size w).alloc (Below.refl w.heap.size w).size (.cells #[.bool neg, .string n, .string d] 25)).trans (hb.mono ((Below.refl w.heap.size w).alloc (Below.refl w.heap.size w).size (.cells #[.bool neg, .string n, .string d] 25)).size))
  have C_1 := Lib.hid ((HC.out.below ((Below.refl _ _).alloc (Nat.le_refl _) (.cells #[.bool neg, .string n, .string d] 25))).below hb)
  have I_1 := Lib.hid ((HI.out.below ((Below.refl _ _).alloc (Nat.le_refl _) (.cells #[.bool neg, .string n, .string d] 25))).below hb)
  have K_1 := Lib.hid (K.out.below hb K.out.lt)
  clear hb
  go_wp2_with fail
  refine (few_any _ l _ C_1.out hl).mono ?_
  rw [hfew]
  rintro e w2 ⟨rfl, hb⟩
  have HB_2 := Lib.hid (HB_1.out.trans (hb.mono HB_1.out.size))
  have C_2 := Lib.hid (C_1.out.below hb)
  have I_2 := Lib.hid (I_1.out.below hb)
  have K_2 := Lib.hid (K_1.out.below hb K_1.out.lt)
  clear hb
  obtain ⟨q0, _⟩ := K_2.out.at 0 _ rfl
  obtain ⟨q1, _⟩ := K_2.out.at 1 _ rfl
  obtain ⟨q2, _⟩ := K_2.out.at 2 _ rfl
  have hk := K_2.out.lt
  go_wp2_with fail
  refine (fewR_any neg n d _).mono ?_
  rw [hr]
  rintro e w3 ⟨rfl, hb⟩
  have HB_3 := Lib.hid (HB_2.out.trans (hb.mono HB_2.out.size))
  have C_3 := Lib.hid (C_2.out.below hb)
  have I_3 := Lib.hid (I_2.out.below hb)
  have K_3 := Lib.hid (K_2.out.below hb K_2.out.lt)
  clear hb
  clear q0 q1 q2 hk
  have t1 : decide ((12 : Int) < (c.length : Int)) = false := by simp; omega
  obtain ⟨q0, _⟩ := K_3.out.at 0 _ rfl
  obtain ⟨q1, _⟩ := K_3.out.at 1 _ rfl
  obtain ⟨q2, _⟩ := K_3.out.at 2 _ rfl
  have hk := K_3.out.lt
  go_wp2_with fail
  refine (Run_any _ _ l c neg n d fuel _ C_3.out (by omega) I_3.out (by omega) (by omega) (HT.out.below HB_3.out)).mono ?_
  rintro e w4 ⟨hb, hr1⟩
  have HB_4 := Lib.hid (HB_3.out.trans (hb.mono HB_3.out.size))
  have C_4 := Lib.hid (C_3.out.below hb)
  have I_4 := Lib.hid (I_3.out.below hb)
  have K_4 := Lib.hid (K_3.out.below hb K_3.out.lt)
  clear hb
  clear q0 q1 q2 hk
  obtain rfl := hr1.elim (fun h => absurd (H5.out.symm.trans h.1) h0) (fun h => h.2)
  rw [H5.out]
  clear hr1
  obtain ⟨q0, _⟩ := K_4.out.at 0 _ rfl
  obtain ⟨q1, _⟩ := K_4.out.at 1 _ rfl
  obtain ⟨q2, _⟩ := K_4.out.at 2 _ rfl
  have hk := K_4.out.lt
  go_wp2_with fail
  refine (run17_any _ _ l c neg n d fuel _ C_4.out (by omega) I_4.out (by omega) (by omega)).mono ?_
  rintro e w5 ⟨hb, hr2⟩
  have HB_5 := Lib.hid (HB_4.out.trans (hb.mono HB_4.out.size))
  have C_5 := Lib.hid (C_4.out.below hb)
  have I_5 := Lib.hid (I_4.out.below hb)
  have K_5 := Lib.hid (K_4.out.below hb K_4.out.lt)
  clear hb
  clear q0 q1 q2 hk
  obtain rfl := hr2.elim (fun h => absurd (H5.out.symm.trans h.1) h0) (fun h => h.2)
  rw [H5.out]
  clear hr2
  go_wp2_with fail
  refine (mcheck_any C_5.out (by omega) (HT.out.below HB_5.out)).mono ?_
  rintro e w6 ⟨rfl, hb⟩
  have HB_6 := Lib.hid (HB_5.out.trans (hb.mono HB_5.out.size))
  have C_6 := Lib.hid (C_5.out.below hb)
  have I_6 := Lib.hid (I_5.out.below hb)
  have K_6 := Lib.hid (K_5.out.below hb K_5.out.lt)
  clear hb
  go_wp2_with fail
  refine (check17_any C_6.out (by omega)).mono ?_
  rintro e w7 ⟨rfl, hb⟩
  have HB_7 := Lib.hid (HB_6.out.trans (hb.mono HB_6.out.size))
  have C_7 := Lib.hid (C_6.out.below hb)
  have I_7 := Lib.hid (I_6.out.below hb)
  have K_7 := Lib.hid (K_6.out.below hb K_6.out.lt)
  clear hb
  go_wp2_with fail
  refine (sameUses_yes _ _ [] _ ⟨_, _, rfl, fun i u h => by simp at h⟩ ⟨_, _, rfl, fun i u h => by simp at h⟩ (by simp)).mono ?_
  rintro e w8 ⟨rfl, hb⟩
  have HB_8 := Lib.hid (HB_7.out.trans (hb.mono HB_7.out.size))
  have C_8 := Lib.hid (C_7.out.below hb)
  have I_8 := Lib.hid (I_7.out.below hb)
  have K_8 := Lib.hid (K_7.out.below hb K_7.out.lt)
  clear hb
  go_wp2_with fail
  refine (sameWork_yes _ _ [] _ ⟨_, _, rfl, fun i u h => by simp at h⟩ ⟨_, _, rfl, fun i u h => by simp at h⟩ (by simp)).mono ?_
  rintro e w9 ⟨rfl, hb⟩
  have HB_9 := Lib.hid (HB_8.out.trans (hb.mono HB_8.out.size))
  have C_9 := Lib.hid (C_8.out.below hb)
  have I_9 := Lib.hid (I_8.out.below hb)
  have K_9 := Lib.hid (K_8.out.below hb K_8.out.lt)
  clear hb
  go_wp2
  go_ret
  exact ⟨rfl, HB_9.out⟩

set_option maxRecDepth 100000 in
set_option maxHeartbeats 8000000 in
theorem spec_good (A A' : Option Addr) (cap cap' : Nat) (l : List In) (c : List Int) (neg : Bool) (n d : ByteArray) (fuel : Int) (w : World) (hv : CodeV w (.slice A l.length cap) l) (hc : IntsV w (.slice A' c.length cap') c) (hl : l.length ≤ 9223372036854775807) (hT : Tab w) (hfew : fewL l = true) (hr : (decide (n.size ≤ 40) && decide (d.size ≤ 40)) = true) (h12 : c.length ≤ 12) (h60 : l.length ≤ 60) (hf : fuel < 9223372036854775808) (s : Mst) (H5 : Hid (runE l c neg n d fuel = (0, s))) (hul : s.uses.length ≤ 1048576) (hwl : s.works.length ≤ 1048576) :
    Calls Tryz.prog 3 #[.slice A l.length cap, .slice A' c.length cap', .agg #[.bool neg, .string n, .string d], .int .i64 fuel] w (Ret w (.bool true)) := by
  have hnot : ∀ (x : Bool) (w : World), (Op.unary .not (.bool x)).run Tryz.prog w = .ok (.bool (!x)) w := fun _ _ => rfl
  have HT := Lib.hid hT
  have HC := Lib.hid hv
  have HI := Lib.hid hc
  clear hT hv hc
  go_enter Tryz.func3, Tryz.ntmps3
  have K : Hid (Blk (w.alloc (.cells #[.bool neg, .string n, .string d] 25)) (w.heap.size) [.bool neg, .string n, .string d] 25) := by
    have := Blk.new w [.bool neg, .string n, .string d] 25
    exact this
  go_wp2_with fail
  refine (sane_any _ (HT.out.below ((Below.refl w.heap.size w).alloc (Below.refl w.heap.size w).size (.cells #[.bool neg, .string n, .string d] 25)))).mono ?_
  rintro e w1 ⟨rfl, hb⟩
  have HB_1 := Lib.hid (((Below.refl w.heap.size w).alloc (Below.refl w.heap.size w).size (.cells #[.bool neg, .string n, .string d] 25)).trans (hb.mono ((Below.refl w.heap.size w).alloc (Below.refl w.heap.size w).size (.cells #[.bool neg, .string n, .string d] 25)).size))
  have C_1 := Lib.hid ((HC.out.below ((Below.refl _ _).alloc (Nat.le_refl _) (.cells #[.bool neg, .string n, .string d] 25))).below hb)
  have I_1 := Lib.hid ((HI.out.below ((Below.refl _ _).alloc (Nat.le_refl _) (.cells #[.bool neg, .string n, .string d] 25))).below hb)
  have K_1 := Lib.hid (K.out.below hb K.out.lt)
  clear hb
  go_wp2_with fail
  refine (few_any _ l _ C_1.out hl).mono ?_
  rw [hfew]
  rintro e w2 ⟨rfl, hb⟩
  have HB_2 := Lib.hid (HB_1.out.trans (hb.mono HB_1.out.size))
  have C_2 := Lib.hid (C_1.out.below hb)
  have I_2 := Lib.hid (I_1.out.below hb)
  have K_2 := Lib.hid (K_1.out.below hb K_1.out.lt)
  clear hb
  obtain ⟨q0, _⟩ := K_2.out.at 0 _ rfl
  obtain ⟨q1, _⟩ := K_2.out.at 1 _ rfl
  obtain ⟨q2, _⟩ := K_2.out.at 2 _ rfl
  have hk := K_2.out.lt
  go_wp2_with fail
  refine (fewR_any neg n d _).mono ?_
  rw [hr]
  rintro e w3 ⟨rfl, hb⟩
  have HB_3 := Lib.hid (HB_2.out.trans (hb.mono HB_2.out.size))
  have C_3 := Lib.hid (C_2.out.below hb)
  have I_3 := Lib.hid (I_2.out.below hb)
  have K_3 := Lib.hid (K_2.out.below hb K_2.out.lt)
  clear hb
  clear q0 q1 q2 hk
  have t1 : decide ((12 : Int) < (c.length : Int)) = false := by simp; omega
  obtain ⟨q0, _⟩ := K_3.out.at 0 _ rfl
  obtain ⟨q1, _⟩ := K_3.out.at 1 _ rfl
  obtain ⟨q2, _⟩ := K_3.out.at 2 _ rfl
  have hk := K_3.out.lt
  go_wp2_with fail
  refine (Run_any _ _ l c neg n d fuel _ C_3.out (by omega) I_3.out (by omega) (by omega) (HT.out.below HB_3.out)).mono ?_
  rw [H5.out]
  rintro e w4 ⟨hb, hr⟩
  have HB_4 := Lib.hid (HB_3.out.trans (hb.mono HB_3.out.size))
  have C_4 := Lib.hid (C_3.out.below hb)
  have I_4 := Lib.hid (I_3.out.below hb)
  have K_4 := Lib.hid (K_3.out.below hb K_3.out.lt)
  clear q0 q1 q2 hk
  obtain ⟨u1, v1, rfl, hu, hw⟩ : ∃ uv wv, e = .returned (.tuple #[uv, wv, .int .i64 s.lead, .int .i64 (s.fuel : Int), .int .i64 0]) ∧ _ ∧ _ := hr.elim (fun h => h.2) (fun h => absurd rfl h.1)
  have U1_4 := Lib.hid (UsesV.of_owns (us := s.uses) hu)
  have V1_4 := Lib.hid (WorksV.of_owns (us := s.works) hw)
  clear hr hu hw
  clear hb
  obtain ⟨q0, _⟩ := K_4.out.at 0 _ rfl
  obtain ⟨q1, _⟩ := K_4.out.at 1 _ rfl
  obtain ⟨q2, _⟩ := K_4.out.at 2 _ rfl
  have hk := K_4.out.lt
  go_wp2_with fail
  refine (run17_any _ _ l c neg n d fuel _ C_4.out (by omega) I_4.out (by omega) (by omega)).mono ?_
  rw [H5.out]
  rintro e w5 ⟨hb, hr⟩
  have HB_5 := Lib.hid (HB_4.out.trans (hb.mono HB_4.out.size))
  have C_5 := Lib.hid (C_4.out.below hb)
  have I_5 := Lib.hid (I_4.out.below hb)
  have K_5 := Lib.hid (K_4.out.below hb K_4.out.lt)
  have U1_5 := Lib.hid (U1_4.out.below hb)
  have V1_5 := Lib.hid (V1_4.out.below hb)
  clear q0 q1 q2 hk
  obtain ⟨u2, v2, rfl, hu, hw⟩ : ∃ uv wv, e = .returned (.tuple #[uv, wv, .int .i64 s.lead, .int .i64 (s.fuel : Int), .int .i64 0]) ∧ _ ∧ _ := hr.elim (fun h => h.2) (fun h => absurd rfl h.1)
  have U2_5 := Lib.hid (UsesV.of_owns (us := s.uses) hu)
  have V2_5 := Lib.hid (WorksV.of_owns (us := s.works) hw)
  clear hr hu hw
  clear hb
  go_wp2_with fail
  refine (mcheck_any C_5.out (by omega) (HT.out.below HB_5.out)).mono ?_
  rintro e w6 ⟨rfl, hb⟩
  have HB_6 := Lib.hid (HB_5.out.trans (hb.mono HB_5.out.size))
  have C_6 := Lib.hid (C_5.out.below hb)
  have I_6 := Lib.hid (I_5.out.below hb)
  have K_6 := Lib.hid (K_5.out.below hb K_5.out.lt)
  have U1_6 := Lib.hid (U1_5.out.below hb)
  have V1_6 := Lib.hid (V1_5.out.below hb)
  have U2_6 := Lib.hid (U2_5.out.below hb)
  have V2_6 := Lib.hid (V2_5.out.below hb)
  clear hb
  go_wp2_with fail
  refine (check17_any C_6.out (by omega)).mono ?_
  rintro e w7 ⟨rfl, hb⟩
  have HB_7 := Lib.hid (HB_6.out.trans (hb.mono HB_6.out.size))
  have C_7 := Lib.hid (C_6.out.below hb)
  have I_7 := Lib.hid (I_6.out.below hb)
  have K_7 := Lib.hid (K_6.out.below hb K_6.out.lt)
  have U1_7 := Lib.hid (U1_6.out.below hb)
  have V1_7 := Lib.hid (V1_6.out.below hb)
  have U2_7 := Lib.hid (U2_6.out.below hb)
  have V2_7 := Lib.hid (V2_6.out.below hb)
  clear hb
  go_wp2_with fail
  refine (sameUses_yes _ _ s.uses _ U1_7.out U2_7.out hul).mono ?_
  rintro e w8 ⟨rfl, hb⟩
  have HB_8 := Lib.hid (HB_7.out.trans (hb.mono HB_7.out.size))
  have C_8 := Lib.hid (C_7.out.below hb)
  have I_8 := Lib.hid (I_7.out.below hb)
  have K_8 := Lib.hid (K_7.out.below hb K_7.out.lt)
  have U1_8 := Lib.hid (U1_7.out.below hb)
  have V1_8 := Lib.hid (V1_7.out.below hb)
  have U2_8 := Lib.hid (U2_7.out.below hb)
  have V2_8 := Lib.hid (V2_7.out.below hb)
  clear hb
  go_wp2_with fail
  refine (sameWork_yes _ _ s.works _ V1_8.out V2_8.out hwl).mono ?_
  rintro e w9 ⟨rfl, hb⟩
  have HB_9 := Lib.hid (HB_8.out.trans (hb.mono HB_8.out.size))
  have C_9 := Lib.hid (C_8.out.below hb)
  have I_9 := Lib.hid (I_8.out.below hb)
  have K_9 := Lib.hid (K_8.out.below hb K_8.out.lt)
  have U1_9 := Lib.hid (U1_8.out.below hb)
  have V1_9 := Lib.hid (V1_8.out.below hb)
  have U2_9 := Lib.hid (U2_8.out.below hb)
  have V2_9 := Lib.hid (V2_8.out.below hb)
  clear hb
  go_wp2
  go_ret
  exact ⟨rfl, HB_9.out⟩

/-- MachineRunSpec returns true. -/
theorem MachineRunSpec_any (v cv : Value) (l : List In) (c : List Int) (neg : Bool) (n d : ByteArray) (fuel : Int) (w : World) (hv : CodeV w v l) (hc : IntsV w cv c) (hl : l.length ≤ 9223372036854775807) (hf : fuel < 9223372036854775808) (hT : Tab w) :
    Calls Tryz.prog 3 #[v, cv, .agg #[.bool neg, .string n, .string d], .int .i64 fuel] w (Ret w (.bool true)) := by
  obtain ⟨A, cap, e1, _⟩ := id hv
  obtain ⟨A', cap', e2, _⟩ := id hc
  subst e1 e2
  cases hfew : fewL l with
  | false => exact spec_few A A' cap cap' l c neg n d fuel w hv hc hl hT hfew
  | true =>
    have h60 : l.length ≤ 60 := by
      unfold fewL at hfew
      simp at hfew
      exact hfew.2
    cases hr : (decide (n.size ≤ 40) && decide (d.size ≤ 40)) with
    | false => exact spec_ratio A A' cap cap' l c neg n d fuel w hv hc hl hT hfew hr
    | true =>
      by_cases h12 : 12 < c.length
      · exact spec_long A A' cap cap' l c neg n d fuel w hv hc hl hT hfew hr h12
      obtain ⟨u1, u2⟩ := runE_len l c neg n d fuel
      by_cases h0 : (runE l c neg n d fuel).1 = 0
      · exact spec_good A A' cap cap' l c neg n d fuel w hv hc hl hT hfew hr (by omega) h60 hf (runE l c neg n d fuel).2 (Prod.ext h0 rfl) (by omega) (by omega)
      · exact spec_err A A' cap cap' l c neg n d fuel w hv hc hl hT hfew hr (by omega) h60 hf _ h0 rfl
end Go.Proofs.YtoolanjbmbcaiaaGreatDoor
