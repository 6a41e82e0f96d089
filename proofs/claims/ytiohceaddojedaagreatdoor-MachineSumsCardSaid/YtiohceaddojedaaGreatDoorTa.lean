/- The walk of MachineSums: the guards, and the runs that fail. -/
import Derived.Test.YtiohceaddojedaaGreatDoorFb
import Derived.Test.YtiohceaddojedaaGreatDoorRh
import Derived.Test.YtiohceaddojedaaGreatDoorLe
namespace Go.Proofs.YtiohceaddojedaaGreatDoor
open Go.RowKit Bf

set_option maxRecDepth 100000 in
set_option maxHeartbeats 8000000 in
theorem sums_few (A A' : Option Addr) (cap cap' : Nat) (l : List In) (c : List Int) (neg neg' : Bool) (n d n' d' : ByteArray) (w : World) (hv : CodeV w (.slice A l.length cap) l) (hc : IntsV w (.slice A' c.length cap') c) (hl : l.length ≤ 9223372036854775807) (_hcl : c.length ≤ 9223372036854775807) (hT : Tab w) (hfew : fewL l = false) :
    Calls Tryz.prog 4 #[.slice A l.length cap, .slice A' c.length cap', .agg #[.bool neg, .string n, .string d], .agg #[.bool neg', .string n', .string d']] w (Ret w (.bool true)) := by
  have hnot : ∀ (x : Bool) (w : World), (Op.unary .not (.bool x)).run Tryz.prog w = .ok (.bool (!x)) w := fun _ _ => rfl
  have HT := Lib.hid hT
  have HC := Lib.hid hv
  have HI := Lib.hid hc
  clear hT hv hc
  go_enter Tryz.func4, Tryz.ntmps4
  have K : Hid (Blk (w.alloc (.cells #[.bool neg, .string n, .string d] 25)) (w.heap.size) [.bool neg, .string n, .string d] 25) := by
    have := Blk.new w [.bool neg, .string n, .string d] 25
    exact this
  have M : Hid (Blk ((w.alloc (.cells #[.bool neg, .string n, .string d] 25)).alloc (.cells #[.bool neg', .string n', .string d'] 25)) (w.heap.size + 1) [.bool neg', .string n', .string d'] 25) := by
    have := Blk.new (w.alloc (.cells #[.bool neg, .string n, .string d] 25)) [.bool neg', .string n', .string d'] 25
    rwa [World.size_alloc] at this
  go_wp2_with fail
  refine (sane_any _ (HT.out.below (((Below.refl w.heap.size w).alloc (Below.refl w.heap.size w).size (.cells #[.bool neg, .string n, .string d] 25)).alloc ((Below.refl w.heap.size w).alloc (Below.refl w.heap.size w).size (.cells #[.bool neg, .string n, .string d] 25)).size (.cells #[.bool neg', .string n', .string d'] 25)))).mono ?_
  rintro e w1 ⟨rfl, hb⟩
  have HB_1 := Lib.hid ((((Below.refl w.heap.size w).alloc (Below.refl w.heap.size w).size (.cells #[.bool neg, .string n, .string d] 25)).alloc ((Below.refl w.heap.size w).alloc (Below.refl w.heap.size w).size (.cells #[.bool neg, .string n, .string d] 25)).size (.cells #[.bool neg', .string n', .string d'] 25)).trans (hb.mono (((Below.refl w.heap.size w).alloc (Below.refl w.heap.size w).size (.cells #[.bool neg, .string n, .string d] 25)).alloc ((Below.refl w.heap.size w).alloc (Below.refl w.heap.size w).size (.cells #[.bool neg, .string n, .string d] 25)).size (.cells #[.bool neg', .string n', .string d'] 25)).size))
  have C_1 := Lib.hid (((HC.out.below ((Below.refl _ _).alloc (Nat.le_refl _) (.cells #[.bool neg, .string n, .string d] 25))).below ((Below.refl _ _).alloc (Nat.le_refl _) (.cells #[.bool neg', .string n', .string d'] 25))).below hb)
  have I_1 := Lib.hid (((HI.out.below ((Below.refl _ _).alloc (Nat.le_refl _) (.cells #[.bool neg, .string n, .string d] 25))).below ((Below.refl _ _).alloc (Nat.le_refl _) (.cells #[.bool neg', .string n', .string d'] 25))).below hb)
  have K_1 := Lib.hid ((K.out.alloc (.cells #[.bool neg', .string n', .string d'] 25)).below hb (K.out.alloc (.cells #[.bool neg', .string n', .string d'] 25)).lt)
  have M_1 := Lib.hid (M.out.below hb M.out.lt)
  clear hb
  go_wp2_with fail
  refine (few_any _ l _ C_1.out hl).mono ?_
  rw [hfew]
  rintro e w2 ⟨rfl, hb⟩
  have HB_2 := Lib.hid (HB_1.out.trans (hb.mono HB_1.out.size))
  have C_2 := Lib.hid (C_1.out.below hb)
  have I_2 := Lib.hid (I_1.out.below hb)
  have K_2 := Lib.hid (K_1.out.below hb K_1.out.lt)
  have M_2 := Lib.hid (M_1.out.below hb M_1.out.lt)
  clear hb
  go_wp2
  go_ret
  exact ⟨rfl, HB_2.out⟩

set_option maxRecDepth 100000 in
set_option maxHeartbeats 8000000 in
theorem sums_ratio (A A' : Option Addr) (cap cap' : Nat) (l : List In) (c : List Int) (neg neg' : Bool) (n d n' d' : ByteArray) (w : World) (hv : CodeV w (.slice A l.length cap) l) (hc : IntsV w (.slice A' c.length cap') c) (hl : l.length ≤ 9223372036854775807) (_hcl : c.length ≤ 9223372036854775807) (hT : Tab w) (hfew : fewL l = true) (hr : (decide (n.size ≤ 40) && decide (d.size ≤ 40)) = false) :
    Calls Tryz.prog 4 #[.slice A l.length cap, .slice A' c.length cap', .agg #[.bool neg, .string n, .string d], .agg #[.bool neg', .string n', .string d']] w (Ret w (.bool true)) := by
  have hnot : ∀ (x : Bool) (w : World), (Op.unary .not (.bool x)).run Tryz.prog w = .ok (.bool (!x)) w := fun _ _ => rfl
  have HT := Lib.hid hT
  have HC := Lib.hid hv
  have HI := Lib.hid hc
  clear hT hv hc
  go_enter Tryz.func4, Tryz.ntmps4
  have K : Hid (Blk (w.alloc (.cells #[.bool neg, .string n, .string d] 25)) (w.heap.size) [.bool neg, .string n, .string d] 25) := by
    have := Blk.new w [.bool neg, .string n, .string d] 25
    exact this
  have M : Hid (Blk ((w.alloc (.cells #[.bool neg, .string n, .string d] 25)).alloc (.cells #[.bool neg', .string n', .string d'] 25)) (w.heap.size + 1) [.bool neg', .string n', .string d'] 25) := by
    have := Blk.new (w.alloc (.cells #[.bool neg, .string n, .string d] 25)) [.bool neg', .string n', .string d'] 25
    rwa [World.size_alloc] at this
  go_wp2_with fail
  refine (sane_any _ (HT.out.below (((Below.refl w.heap.size w).alloc (Below.refl w.heap.size w).size (.cells #[.bool neg, .string n, .string d] 25)).alloc ((Below.refl w.heap.size w).alloc (Below.refl w.heap.size w).size (.cells #[.bool neg, .string n, .string d] 25)).size (.cells #[.bool neg', .string n', .string d'] 25)))).mono ?_
  rintro e w1 ⟨rfl, hb⟩
  have HB_1 := Lib.hid ((((Below.refl w.heap.size w).alloc (Below.refl w.heap.size w).size (.cells #[.bool neg, .string n, .string d] 25)).alloc ((Below.refl w.heap.size w).alloc (Below.refl w.heap.size w).size (.cells #[.bool neg, .string n, .string d] 25)).size (.cells #[.bool neg', .string n', .string d'] 25)).trans (hb.mono (((Below.refl w.heap.size w).alloc (Below.refl w.heap.size w).size (.cells #[.bool neg, .string n, .string d] 25)).alloc ((Below.refl w.heap.size w).alloc (Below.refl w.heap.size w).size (.cells #[.bool neg, .string n, .string d] 25)).size (.cells #[.bool neg', .string n', .string d'] 25)).size))
  have C_1 := Lib.hid (((HC.out.below ((Below.refl _ _).alloc (Nat.le_refl _) (.cells #[.bool neg, .string n, .string d] 25))).below ((Below.refl _ _).alloc (Nat.le_refl _) (.cells #[.bool neg', .string n', .string d'] 25))).below hb)
  have I_1 := Lib.hid (((HI.out.below ((Below.refl _ _).alloc (Nat.le_refl _) (.cells #[.bool neg, .string n, .string d] 25))).below ((Below.refl _ _).alloc (Nat.le_refl _) (.cells #[.bool neg', .string n', .string d'] 25))).below hb)
  have K_1 := Lib.hid ((K.out.alloc (.cells #[.bool neg', .string n', .string d'] 25)).below hb (K.out.alloc (.cells #[.bool neg', .string n', .string d'] 25)).lt)
  have M_1 := Lib.hid (M.out.below hb M.out.lt)
  clear hb
  go_wp2_with fail
  refine (few_any _ l _ C_1.out hl).mono ?_
  rw [hfew]
  rintro e w2 ⟨rfl, hb⟩
  have HB_2 := Lib.hid (HB_1.out.trans (hb.mono HB_1.out.size))
  have C_2 := Lib.hid (C_1.out.below hb)
  have I_2 := Lib.hid (I_1.out.below hb)
  have K_2 := Lib.hid (K_1.out.below hb K_1.out.lt)
  have M_2 := Lib.hid (M_1.out.below hb M_1.out.lt)
  clear hb
  obtain ⟨q0, _⟩ := K_2.out.at 0 _ rfl
  obtain ⟨q1, _⟩ := K_2.out.at 1 _ rfl
  obtain ⟨q2, _⟩ := K_2.out.at 2 _ rfl
  have hq := K_2.out.lt
  go_wp2_with fail
  refine (fewR_any neg n d _).mono ?_
  rw [hr]
  rintro e w3 ⟨rfl, hb⟩
  have HB_3 := Lib.hid (HB_2.out.trans (hb.mono HB_2.out.size))
  have C_3 := Lib.hid (C_2.out.below hb)
  have I_3 := Lib.hid (I_2.out.below hb)
  have K_3 := Lib.hid (K_2.out.below hb K_2.out.lt)
  have M_3 := Lib.hid (M_2.out.below hb M_2.out.lt)
  clear hb
  clear q0 q1 q2 hq
  go_wp2
  go_ret
  exact ⟨rfl, HB_3.out⟩

set_option maxRecDepth 100000 in
set_option maxHeartbeats 8000000 in
theorem sums_ratio2 (A A' : Option Addr) (cap cap' : Nat) (l : List In) (c : List Int) (neg neg' : Bool) (n d n' d' : ByteArray) (w : World) (hv : CodeV w (.slice A l.length cap) l) (hc : IntsV w (.slice A' c.length cap') c) (hl : l.length ≤ 9223372036854775807) (_hcl : c.length ≤ 9223372036854775807) (hT : Tab w) (hfew : fewL l = true) (hr : (decide (n.size ≤ 40) && decide (d.size ≤ 40)) = true) (hr' : (decide (n'.size ≤ 40) && decide (d'.size ≤ 40)) = false) :
    Calls Tryz.prog 4 #[.slice A l.length cap, .slice A' c.length cap', .agg #[.bool neg, .string n, .string d], .agg #[.bool neg', .string n', .string d']] w (Ret w (.bool true)) := by
  have hnot : ∀ (x : Bool) (w : World), (Op.unary .not (.bool x)).run Tryz.prog w = .ok (.bool (!x)) w := fun _ _ => rfl
  have HT := Lib.hid hT
  have HC := Lib.hid hv
  have HI := Lib.hid hc
  clear hT hv hc
  go_enter Tryz.func4, Tryz.ntmps4
  have K : Hid (Blk (w.alloc (.cells #[.bool neg, .string n, .string d] 25)) (w.heap.size) [.bool neg, .string n, .string d] 25) := by
    have := Blk.new w [.bool neg, .string n, .string d] 25
    exact this
  have M : Hid (Blk ((w.alloc (.cells #[.bool neg, .string n, .string d] 25)).alloc (.cells #[.bool neg', .string n', .string d'] 25)) (w.heap.size + 1) [.bool neg', .string n', .string d'] 25) := by
    have := Blk.new (w.alloc (.cells #[.bool neg, .string n, .string d] 25)) [.bool neg', .string n', .string d'] 25
    rwa [World.size_alloc] at this
  go_wp2_with fail
  refine (sane_any _ (HT.out.below (((Below.refl w.heap.size w).alloc (Below.refl w.heap.size w).size (.cells #[.bool neg, .string n, .string d] 25)).alloc ((Below.refl w.heap.size w).alloc (Below.refl w.heap.size w).size (.cells #[.bool neg, .string n, .string d] 25)).size (.cells #[.bool neg', .string n', .string d'] 25)))).mono ?_
  rintro e w1 ⟨rfl, hb⟩
  have HB_1 := Lib.hid ((((Below.refl w.heap.size w).alloc (Below.refl w.heap.size w).size (.cells #[.bool neg, .string n, .string d] 25)).alloc ((Below.refl w.heap.size w).alloc (Below.refl w.heap.size w).size (.cells #[.bool neg, .string n, .string d] 25)).size (.cells #[.bool neg', .string n', .string d'] 25)).trans (hb.mono (((Below.refl w.heap.size w).alloc (Below.refl w.heap.size w).size (.cells #[.bool neg, .string n, .string d] 25)).alloc ((Below.refl w.heap.size w).alloc (Below.refl w.heap.size w).size (.cells #[.bool neg, .string n, .string d] 25)).size (.cells #[.bool neg', .string n', .string d'] 25)).size))
  have C_1 := Lib.hid (((HC.out.below ((Below.refl _ _).alloc (Nat.le_refl _) (.cells #[.bool neg, .string n, .string d] 25))).below ((Below.refl _ _).alloc (Nat.le_refl _) (.cells #[.bool neg', .string n', .string d'] 25))).below hb)
  have I_1 := Lib.hid (((HI.out.below ((Below.refl _ _).alloc (Nat.le_refl _) (.cells #[.bool neg, .string n, .string d] 25))).below ((Below.refl _ _).alloc (Nat.le_refl _) (.cells #[.bool neg', .string n', .string d'] 25))).below hb)
  have K_1 := Lib.hid ((K.out.alloc (.cells #[.bool neg', .string n', .string d'] 25)).below hb (K.out.alloc (.cells #[.bool neg', .string n', .string d'] 25)).lt)
  have M_1 := Lib.hid (M.out.below hb M.out.lt)
  clear hb
  go_wp2_with fail
  refine (few_any _ l _ C_1.out hl).mono ?_
  rw [hfew]
  rintro e w2 ⟨rfl, hb⟩
  have HB_2 := Lib.hid (HB_1.out.trans (hb.mono HB_1.out.size))
  have C_2 := Lib.hid (C_1.out.below hb)
  have I_2 := Lib.hid (I_1.out.below hb)
  have K_2 := Lib.hid (K_1.out.below hb K_1.out.lt)
  have M_2 := Lib.hid (M_1.out.below hb M_1.out.lt)
  clear hb
  obtain ⟨q0, _⟩ := K_2.out.at 0 _ rfl
  obtain ⟨q1, _⟩ := K_2.out.at 1 _ rfl
  obtain ⟨q2, _⟩ := K_2.out.at 2 _ rfl
  have hq := K_2.out.lt
  go_wp2_with fail
  refine (fewR_any neg n d _).mono ?_
  rw [hr]
  rintro e w3 ⟨rfl, hb⟩
  have HB_3 := Lib.hid (HB_2.out.trans (hb.mono HB_2.out.size))
  have C_3 := Lib.hid (C_2.out.below hb)
  have I_3 := Lib.hid (I_2.out.below hb)
  have K_3 := Lib.hid (K_2.out.below hb K_2.out.lt)
  have M_3 := Lib.hid (M_2.out.below hb M_2.out.lt)
  clear hb
  clear q0 q1 q2 hq
  obtain ⟨p0, _⟩ := M_3.out.at 0 _ rfl
  obtain ⟨p1, _⟩ := M_3.out.at 1 _ rfl
  obtain ⟨p2, _⟩ := M_3.out.at 2 _ rfl
  have hp := M_3.out.lt
  go_wp2_with fail
  refine (fewR_any neg' n' d' _).mono ?_
  rw [hr']
  rintro e w4 ⟨rfl, hb⟩
  have HB_4 := Lib.hid (HB_3.out.trans (hb.mono HB_3.out.size))
  have C_4 := Lib.hid (C_3.out.below hb)
  have I_4 := Lib.hid (I_3.out.below hb)
  have K_4 := Lib.hid (K_3.out.below hb K_3.out.lt)
  have M_4 := Lib.hid (M_3.out.below hb M_3.out.lt)
  clear hb
  clear p0 p1 p2 hp
  go_wp2
  go_ret
  exact ⟨rfl, HB_4.out⟩

set_option maxRecDepth 100000 in
set_option maxHeartbeats 8000000 in
theorem sums_long (A A' : Option Addr) (cap cap' : Nat) (l : List In) (c : List Int) (neg neg' : Bool) (n d n' d' : ByteArray) (w : World) (hv : CodeV w (.slice A l.length cap) l) (hc : IntsV w (.slice A' c.length cap') c) (hl : l.length ≤ 9223372036854775807) (hcl : c.length ≤ 9223372036854775807) (hT : Tab w) (hfew : fewL l = true) (hr : (decide (n.size ≤ 40) && decide (d.size ≤ 40)) = true) (hr' : (decide (n'.size ≤ 40) && decide (d'.size ≤ 40)) = true) (h12 : 12 < c.length) :
    Calls Tryz.prog 4 #[.slice A l.length cap, .slice A' c.length cap', .agg #[.bool neg, .string n, .string d], .agg #[.bool neg', .string n', .string d']] w (Ret w (.bool true)) := by
  have hnot : ∀ (x : Bool) (w : World), (Op.unary .not (.bool x)).run Tryz.prog w = .ok (.bool (!x)) w := fun _ _ => rfl
  have HT := Lib.hid hT
  have HC := Lib.hid hv
  have HI := Lib.hid hc
  clear hT hv hc
  go_enter Tryz.func4, Tryz.ntmps4
  have K : Hid (Blk (w.alloc (.cells #[.bool neg, .string n, .string d] 25)) (w.heap.size) [.bool neg, .string n, .string d] 25) := by
    have := Blk.new w [.bool neg, .string n, .string d] 25
    exact this
  have M : Hid (Blk ((w.alloc (.cells #[.bool neg, .string n, .string d] 25)).alloc (.cells #[.bool neg', .string n', .string d'] 25)) (w.heap.size + 1) [.bool neg', .string n', .string d'] 25) := by
    have := Blk.new (w.alloc (.cells #[.bool neg, .string n, .string d] 25)) [.bool neg', .string n', .string d'] 25
    rwa [World.size_alloc] at this
  go_wp2_with fail
  refine (sane_any _ (HT.out.below (((Below.refl w.heap.size w).alloc (Below.refl w.heap.size w).size (.cells #[.bool neg, .string n, .string d] 25)).alloc ((Below.refl w.heap.size w).alloc (Below.refl w.heap.size w).size (.cells #[.bool neg, .string n, .string d] 25)).size (.cells #[.bool neg', .string n', .string d'] 25)))).mono ?_
  rintro e w1 ⟨rfl, hb⟩
  have HB_1 := Lib.hid ((((Below.refl w.heap.size w).alloc (Below.refl w.heap.size w).size (.cells #[.bool neg, .string n, .string d] 25)).alloc ((Below.refl w.heap.size w).alloc (Below.refl w.heap.size w).size (.cells #[.bool neg, .string n, .string d] 25)).size (.cells #[.bool neg', .string n', .string d'] 25)).trans (hb.mono (((Below.refl w.heap.size w).alloc (Below.refl w.heap.size w).size (.cells #[.bool neg, .string n, .string d] 25)).alloc ((Below.refl w.heap.size w).alloc (Below.refl w.heap.size w).size (.cells #[.bool neg, .string n, .string d] 25)).size (.cells #[.bool neg', .string n', .string d'] 25)).size))
  have C_1 := Lib.hid (((HC.out.below ((Below.refl _ _).alloc (Nat.le_refl _) (.cells #[.bool neg, .string n, .string d] 25))).below ((Below.refl _ _).alloc (Nat.le_refl _) (.cells #[.bool neg', .string n', .string d'] 25))).below hb)
  have I_1 := Lib.hid (((HI.out.below ((Below.refl _ _).alloc (Nat.le_refl _) (.cells #[.bool neg, .string n, .string d] 25))).below ((Below.refl _ _).alloc (Nat.le_refl _) (.cells #[.bool neg', .string n', .string d'] 25))).below hb)
  have K_1 := Lib.hid ((K.out.alloc (.cells #[.bool neg', .string n', .string d'] 25)).below hb (K.out.alloc (.cells #[.bool neg', .string n', .string d'] 25)).lt)
  have M_1 := Lib.hid (M.out.below hb M.out.lt)
  clear hb
  go_wp2_with fail
  refine (few_any _ l _ C_1.out hl).mono ?_
  rw [hfew]
  rintro e w2 ⟨rfl, hb⟩
  have HB_2 := Lib.hid (HB_1.out.trans (hb.mono HB_1.out.size))
  have C_2 := Lib.hid (C_1.out.below hb)
  have I_2 := Lib.hid (I_1.out.below hb)
  have K_2 := Lib.hid (K_1.out.below hb K_1.out.lt)
  have M_2 := Lib.hid (M_1.out.below hb M_1.out.lt)
  clear hb
  obtain ⟨q0, _⟩ := K_2.out.at 0 _ rfl
  obtain ⟨q1, _⟩ := K_2.out.at 1 _ rfl
  obtain ⟨q2, _⟩ := K_2.out.at 2 _ rfl
  have hq := K_2.out.lt
  go_wp2_with fail
  refine (fewR_any neg n d _).mono ?_
  rw [hr]
  rintro e w3 ⟨rfl, hb⟩
  have HB_3 := Lib.hid (HB_2.out.trans (hb.mono HB_2.out.size))
  have C_3 := Lib.hid (C_2.out.below hb)
  have I_3 := Lib.hid (I_2.out.below hb)
  have K_3 := Lib.hid (K_2.out.below hb K_2.out.lt)
  have M_3 := Lib.hid (M_2.out.below hb M_2.out.lt)
  clear hb
  clear q0 q1 q2 hq
  obtain ⟨p0, _⟩ := M_3.out.at 0 _ rfl
  obtain ⟨p1, _⟩ := M_3.out.at 1 _ rfl
  obtain ⟨p2, _⟩ := M_3.out.at 2 _ rfl
  have hp := M_3.out.lt
  go_wp2_with fail
  refine (fewR_any neg' n' d' _).mono ?_
  rw [hr']
  rintro e w4 ⟨rfl, hb⟩
  have HB_4 := Lib.hid (HB_3.out.trans (hb.mono HB_3.out.size))
  have C_4 := Lib.hid (C_3.out.below hb)
  have I_4 := Lib.hid (I_3.out.below hb)
  have K_4 := Lib.hid (K_3.out.below hb K_3.out.lt)
  have M_4 := Lib.hid (M_3.out.below hb M_3.out.lt)
  clear hb
  clear p0 p1 p2 hp
  have t1 : decide ((12 : Int) < (c.length : Int)) = true := by simp; omega
  go_wp2
  go_ret
  exact ⟨rfl, HB_4.out⟩

set_option maxRecDepth 100000 in
set_option maxHeartbeats 8000000 in
theorem sums_err1 (A A' : Option Addr) (cap cap' : Nat) (l : List In) (c : List Int) (neg neg' : Bool) (n d n' d' : ByteArray) (w : World) (hv : CodeV w (.slice A l.length cap) l) (hc : IntsV w (.slice A' c.length cap') c) (hl : l.length ≤ 9223372036854775807) (hcl : c.length ≤ 9223372036854775807) (hT : Tab w) (hfew : fewL l = true) (hr : (decide (n.size ≤ 40) && decide (d.size ≤ 40)) = true) (hr' : (decide (n'.size ≤ 40) && decide (d'.size ≤ 40)) = true) (h12 : c.length ≤ 12) (h60 : l.length ≤ 60) (r : Int) (h0 : r ≠ 0) (h5 : (runE l c neg n d (l.length : Int)).1 = r) :
    Calls Tryz.prog 4 #[.slice A l.length cap, .slice A' c.length cap', .agg #[.bool neg, .string n, .string d], .agg #[.bool neg', .string n', .string d']] w (Ret w (.bool true)) := by
  have hnot : ∀ (x : Bool) (w : World), (Op.unary .not (.bool x)).run Tryz.prog w = .ok (.bool (!x)) w := fun _ _ => rfl
  have HT := Lib.hid hT
  have HC := Lib.hid hv
  have HI := Lib.hid hc
  clear hT hv hc
  go_enter Tryz.func4, Tryz.ntmps4
  have K : Hid (Blk (w.alloc (.cells #[.bool neg, .string n, .string d] 25)) (w.heap.size) [.bool neg, .string n, .string d] 25) := by
    have := Blk.new w [.bool neg, .string n, .string d] 25
    exact this
  have M : Hid (Blk ((w.alloc (.cells #[.bool neg, .string n, .string d] 25)).alloc (.cells #[.bool neg', .string n', .string d'] 25)) (w.heap.size + 1) [.bool neg', .string n', .string d'] 25) := by
    have := Blk.new (w.alloc (.cells #[.bool neg, .string n, .string d] 25)) [.bool neg', .string n', .string d'] 25
    rwa [World.size_alloc] at this
  go_wp2_with fail
  refine (sane_any _ (HT.out.below (((Below.refl w.heap.size w).alloc (Below.refl w.heap.size w).size (.cells #[.bool neg, .string n, .string d] 25)).alloc ((Below.refl w.heap.size w).alloc (Below.refl w.heap.size w).size (.cells #[.bool neg, .string n, .string d] 25)).size (.cells #[.bool neg', .string n', .string d'] 25)))).mono ?_
  rintro e w1 ⟨rfl, hb⟩
  have HB_1 := Lib.hid ((((Below.refl w.heap.size w).alloc (Below.refl w.heap.size w).size (.cells #[.bool neg, .string n, .string d] 25)).alloc ((Below.refl w.heap.size w).alloc (Below.refl w.heap.size w).size (.cells #[.bool neg, .string n, .string d] 25)).size (.cells #[.bool neg', .string n', .string d'] 25)).trans (hb.mono (((Below.refl w.heap.size w).alloc (Below.refl w.heap.size w).size (.cells #[.bool neg, .string n, .string d] 25)).alloc ((Below.refl w.heap.size w).alloc (Below.refl w.heap.size w).size (.cells #[.bool neg, .string n, .string d] 25)).size (.cells #[.bool neg', .string n', .string d'] 25)).size))
  have C_1 := Lib.hid (((HC.out.below ((Below.refl _ _).alloc (Nat.le_refl _) (.cells #[.bool neg, .string n, .string d] 25))).below ((Below.refl _ _).alloc (Nat.le_refl _) (.cells #[.bool neg', .string n', .string d'] 25))).below hb)
  have I_1 := Lib.hid (((HI.out.below ((Below.refl _ _).alloc (Nat.le_refl _) (.cells #[.bool neg, .string n, .string d] 25))).below ((Below.refl _ _).alloc (Nat.le_refl _) (.cells #[.bool neg', .string n', .string d'] 25))).below hb)
  have K_1 := Lib.hid ((K.out.alloc (.cells #[.bool neg', .string n', .string d'] 25)).below hb (K.out.alloc (.cells #[.bool neg', .string n', .string d'] 25)).lt)
  have M_1 := Lib.hid (M.out.below hb M.out.lt)
  clear hb
  go_wp2_with fail
  refine (few_any _ l _ C_1.out hl).mono ?_
  rw [hfew]
  rintro e w2 ⟨rfl, hb⟩
  have HB_2 := Lib.hid (HB_1.out.trans (hb.mono HB_1.out.size))
  have C_2 := Lib.hid (C_1.out.below hb)
  have I_2 := Lib.hid (I_1.out.below hb)
  have K_2 := Lib.hid (K_1.out.below hb K_1.out.lt)
  have M_2 := Lib.hid (M_1.out.below hb M_1.out.lt)
  clear hb
  obtain ⟨q0, _⟩ := K_2.out.at 0 _ rfl
  obtain ⟨q1, _⟩ := K_2.out.at 1 _ rfl
  obtain ⟨q2, _⟩ := K_2.out.at 2 _ rfl
  have hq := K_2.out.lt
  go_wp2_with fail
  refine (fewR_any neg n d _).mono ?_
  rw [hr]
  rintro e w3 ⟨rfl, hb⟩
  have HB_3 := Lib.hid (HB_2.out.trans (hb.mono HB_2.out.size))
  have C_3 := Lib.hid (C_2.out.below hb)
  have I_3 := Lib.hid (I_2.out.below hb)
  have K_3 := Lib.hid (K_2.out.below hb K_2.out.lt)
  have M_3 := Lib.hid (M_2.out.below hb M_2.out.lt)
  clear hb
  clear q0 q1 q2 hq
  obtain ⟨p0, _⟩ := M_3.out.at 0 _ rfl
  obtain ⟨p1, _⟩ := M_3.out.at 1 _ rfl
  obtain ⟨p2, _⟩ := M_3.out.at 2 _ rfl
  have hp := M_3.out.lt
  go_wp2_with fail
  refine (fewR_any neg' n' d' _).mono ?_
  rw [hr']
  rintro e w4 ⟨rfl, hb⟩
  have HB_4 := Lib.hid (HB_3.out.trans (hb.mono HB_3.out.size))
  have C_4 := Lib.hid (C_3.out.below hb)
  have I_4 := Lib.hid (I_3.out.below hb)
  have K_4 := Lib.hid (K_3.out.below hb K_3.out.lt)
  have M_4 := Lib.hid (M_3.out.below hb M_3.out.lt)
  clear hb
  clear p0 p1 p2 hp
  have t1 : decide ((12 : Int) < (c.length : Int)) = false := by simp; omega
  have z1 : (r != 0) = true := by simpa using h0
  obtain ⟨q0, _⟩ := K_4.out.at 0 _ rfl
  obtain ⟨q1, _⟩ := K_4.out.at 1 _ rfl
  obtain ⟨q2, _⟩ := K_4.out.at 2 _ rfl
  have hq := K_4.out.lt
  go_wp2_with fail
  refine (Run_any _ _ l c neg n d (l.length : Int) _ C_4.out (by omega) I_4.out (by omega) (by omega) (HT.out.below HB_4.out)).mono ?_
  rintro e w5 ⟨hb, hr1⟩
  have HB_5 := Lib.hid (HB_4.out.trans (hb.mono HB_4.out.size))
  have C_5 := Lib.hid (C_4.out.below hb)
  have I_5 := Lib.hid (I_4.out.below hb)
  have K_5 := Lib.hid (K_4.out.below hb K_4.out.lt)
  have M_5 := Lib.hid (M_4.out.below hb M_4.out.lt)
  clear hb
  clear q0 q1 q2 hq
  obtain rfl := hr1.elim (fun h => absurd (h5.symm.trans h.1) h0) (fun h => h.2)
  rw [h5]
  clear hr1
  obtain ⟨p0, _⟩ := M_5.out.at 0 _ rfl
  obtain ⟨p1, _⟩ := M_5.out.at 1 _ rfl
  obtain ⟨p2, _⟩ := M_5.out.at 2 _ rfl
  have hp := M_5.out.lt
  go_wp2_with fail
  refine (Run_any _ _ l c neg' n' d' (l.length : Int) _ C_5.out (by omega) I_5.out (by omega) (by omega) (HT.out.below HB_5.out)).mono ?_
  rintro e w6 ⟨hb, hr2⟩
  have HB_6 := Lib.hid (HB_5.out.trans (hb.mono HB_5.out.size))
  have C_6 := Lib.hid (C_5.out.below hb)
  have I_6 := Lib.hid (I_5.out.below hb)
  have K_6 := Lib.hid (K_5.out.below hb K_5.out.lt)
  have M_6 := Lib.hid (M_5.out.below hb M_5.out.lt)
  clear hb
  clear p0 p1 p2 hp
  rcases hr2 with ⟨_, uv, wv, rfl, _, _⟩ | ⟨_, rfl⟩
  · go_wp2
    go_ret
    exact ⟨rfl, HB_6.out⟩
  · go_wp2
    go_ret
    exact ⟨rfl, HB_6.out⟩

set_option maxRecDepth 100000 in
set_option maxHeartbeats 8000000 in
theorem sums_err2 (A A' : Option Addr) (cap cap' : Nat) (l : List In) (c : List Int) (neg neg' : Bool) (n d n' d' : ByteArray) (w : World) (hv : CodeV w (.slice A l.length cap) l) (hc : IntsV w (.slice A' c.length cap') c) (hl : l.length ≤ 9223372036854775807) (hcl : c.length ≤ 9223372036854775807) (hT : Tab w) (hfew : fewL l = true) (hr : (decide (n.size ≤ 40) && decide (d.size ≤ 40)) = true) (hr' : (decide (n'.size ≤ 40) && decide (d'.size ≤ 40)) = true) (h12 : c.length ≤ 12) (h60 : l.length ≤ 60) (r : Int) (h0 : r ≠ 0) (h5 : (runE l c neg n d (l.length : Int)).1 = 0) (h6 : (runE l c neg' n' d' (l.length : Int)).1 = r) :
    Calls Tryz.prog 4 #[.slice A l.length cap, .slice A' c.length cap', .agg #[.bool neg, .string n, .string d], .agg #[.bool neg', .string n', .string d']] w (Ret w (.bool true)) := by
  have hnot : ∀ (x : Bool) (w : World), (Op.unary .not (.bool x)).run Tryz.prog w = .ok (.bool (!x)) w := fun _ _ => rfl
  have HT := Lib.hid hT
  have HC := Lib.hid hv
  have HI := Lib.hid hc
  clear hT hv hc
  go_enter Tryz.func4, Tryz.ntmps4
  have K : Hid (Blk (w.alloc (.cells #[.bool neg, .string n, .string d] 25)) (w.heap.size) [.bool neg, .string n, .string d] 25) := by
    have := Blk.new w [.bool neg, .string n, .string d] 25
    exact this
  have M : Hid (Blk ((w.alloc (.cells #[.bool neg, .string n, .string d] 25)).alloc (.cells #[.bool neg', .string n', .string d'] 25)) (w.heap.size + 1) [.bool neg', .string n', .string d'] 25) := by
    have := Blk.new (w.alloc (.cells #[.bool neg, .string n, .string d] 25)) [.bool neg', .string n', .string d'] 25
    rwa [World.size_alloc] at this
  go_wp2_with fail
  refine (sane_any _ (HT.out.below (((Below.refl w.heap.size w).alloc (Below.refl w.heap.size w).size (.cells #[.bool neg, .string n, .string d] 25)).alloc ((Below.refl w.heap.size w).alloc (Below.refl w.heap.size w).size (.cells #[.bool neg, .string n, .string d] 25)).size (.cells #[.bool neg', .string n', .string d'] 25)))).mono ?_
  rintro e w1 ⟨rfl, hb⟩
  have HB_1 := Lib.hid ((((Below.refl w.heap.size w).alloc (Below.refl w.heap.size w).size (.cells #[.bool neg, .string n, .string d] 25)).alloc ((Below.refl w.heap.size w).alloc (Below.refl w.heap.size w).size (.cells #[.bool neg, .string n, .string d] 25)).size (.cells #[.bool neg', .string n', .string d'] 25)).trans (hb.mono (((Below.refl w.heap.size w).alloc (Below.refl w.heap.size w).size (.cells #[.bool neg, .string n, .string d] 25)).alloc ((Below.refl w.heap.size w).alloc (Below.refl w.heap.size w).size (.cells #[.bool neg, .string n, .string d] 25)).size (.cells #[.bool neg', .string n', .string d'] 25)).size))
  have C_1 := Lib.hid (((HC.out.below ((Below.refl _ _).alloc (Nat.le_refl _) (.cells #[.bool neg, .string n, .string d] 25))).below ((Below.refl _ _).alloc (Nat.le_refl _) (.cells #[.bool neg', .string n', .string d'] 25))).below hb)
  have I_1 := Lib.hid (((HI.out.below ((Below.refl _ _).alloc (Nat.le_refl _) (.cells #[.bool neg, .string n, .string d] 25))).below ((Below.refl _ _).alloc (Nat.le_refl _) (.cells #[.bool neg', .string n', .string d'] 25))).below hb)
  have K_1 := Lib.hid ((K.out.alloc (.cells #[.bool neg', .string n', .string d'] 25)).below hb (K.out.alloc (.cells #[.bool neg', .string n', .string d'] 25)).lt)
  have M_1 := Lib.hid (M.out.below hb M.out.lt)
  clear hb
  go_wp2_with fail
  refine (few_any _ l _ C_1.out hl).mono ?_
  rw [hfew]
  rintro e w2 ⟨rfl, hb⟩
  have HB_2 := Lib.hid (HB_1.out.trans (hb.mono HB_1.out.size))
  have C_2 := Lib.hid (C_1.out.below hb)
  have I_2 := Lib.hid (I_1.out.below hb)
  have K_2 := Lib.hid (K_1.out.below hb K_1.out.lt)
  have M_2 := Lib.hid (M_1.out.below hb M_1.out.lt)
  clear hb
  obtain ⟨q0, _⟩ := K_2.out.at 0 _ rfl
  obtain ⟨q1, _⟩ := K_2.out.at 1 _ rfl
  obtain ⟨q2, _⟩ := K_2.out.at 2 _ rfl
  have hq := K_2.out.lt
  go_wp2_with fail
  refine (fewR_any neg n d _).mono ?_
  rw [hr]
  rintro e w3 ⟨rfl, hb⟩
  have HB_3 := Lib.hid (HB_2.out.trans (hb.mono HB_2.out.size))
  have C_3 := Lib.hid (C_2.out.below hb)
  have I_3 := Lib.hid (I_2.out.below hb)
  have K_3 := Lib.hid (K_2.out.below hb K_2.out.lt)
  have M_3 := Lib.hid (M_2.out.below hb M_2.out.lt)
  clear hb
  clear q0 q1 q2 hq
  obtain ⟨p0, _⟩ := M_3.out.at 0 _ rfl
  obtain ⟨p1, _⟩ := M_3.out.at 1 _ rfl
  obtain ⟨p2, _⟩ := M_3.out.at 2 _ rfl
  have hp := M_3.out.lt
  go_wp2_with fail
  refine (fewR_any neg' n' d' _).mono ?_
  rw [hr']
  rintro e w4 ⟨rfl, hb⟩
  have HB_4 := Lib.hid (HB_3.out.trans (hb.mono HB_3.out.size))
  have C_4 := Lib.hid (C_3.out.below hb)
  have I_4 := Lib.hid (I_3.out.below hb)
  have K_4 := Lib.hid (K_3.out.below hb K_3.out.lt)
  have M_4 := Lib.hid (M_3.out.below hb M_3.out.lt)
  clear hb
  clear p0 p1 p2 hp
  have t1 : decide ((12 : Int) < (c.length : Int)) = false := by simp; omega
  have z1 : (r != 0) = true := by simpa using h0
  obtain ⟨q0, _⟩ := K_4.out.at 0 _ rfl
  obtain ⟨q1, _⟩ := K_4.out.at 1 _ rfl
  obtain ⟨q2, _⟩ := K_4.out.at 2 _ rfl
  have hq := K_4.out.lt
  go_wp2_with fail
  refine (Run_any _ _ l c neg n d (l.length : Int) _ C_4.out (by omega) I_4.out (by omega) (by omega) (HT.out.below HB_4.out)).mono ?_
  rintro e w5 ⟨hb, hr1⟩
  have HB_5 := Lib.hid (HB_4.out.trans (hb.mono HB_4.out.size))
  have C_5 := Lib.hid (C_4.out.below hb)
  have I_5 := Lib.hid (I_4.out.below hb)
  have K_5 := Lib.hid (K_4.out.below hb K_4.out.lt)
  have M_5 := Lib.hid (M_4.out.below hb M_4.out.lt)
  clear hb
  clear q0 q1 q2 hq
  obtain ⟨uv, wv, rfl, _, _⟩ := hr1.elim (fun h => h.2) (fun h => absurd h5 h.1)
  clear hr1
  obtain ⟨p0, _⟩ := M_5.out.at 0 _ rfl
  obtain ⟨p1, _⟩ := M_5.out.at 1 _ rfl
  obtain ⟨p2, _⟩ := M_5.out.at 2 _ rfl
  have hp := M_5.out.lt
  go_wp2_with fail
  refine (Run_any _ _ l c neg' n' d' (l.length : Int) _ C_5.out (by omega) I_5.out (by omega) (by omega) (HT.out.below HB_5.out)).mono ?_
  rintro e w6 ⟨hb, hr2⟩
  have HB_6 := Lib.hid (HB_5.out.trans (hb.mono HB_5.out.size))
  have C_6 := Lib.hid (C_5.out.below hb)
  have I_6 := Lib.hid (I_5.out.below hb)
  have K_6 := Lib.hid (K_5.out.below hb K_5.out.lt)
  have M_6 := Lib.hid (M_5.out.below hb M_5.out.lt)
  clear hb
  clear p0 p1 p2 hp
  obtain rfl := hr2.elim (fun h => absurd (h6.symm.trans h.1) h0) (fun h => h.2)
  rw [h6]
  clear hr2
  go_wp2
  go_ret
  exact ⟨rfl, HB_6.out⟩

end Go.Proofs.YtiohceaddojedaaGreatDoor
