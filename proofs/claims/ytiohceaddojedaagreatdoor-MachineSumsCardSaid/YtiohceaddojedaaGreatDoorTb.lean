/- MachineSums returns true. -/
import Derived.Test.YtiohceaddojedaaGreatDoorTa
namespace Go.Proofs.YtiohceaddojedaaGreatDoor
open Go.RowKit Bf

theorem gen_world {K : World → Prop} (T : World → Prop) {W : World} (h : T W) (k : ∀ W2, T W2 → K W2) : K W := k W h

theorem below_drewN {b : Nat} {w W : World} (h : Below b w W) (n : Nat) : Below b w (W.drewN n) := h.trans ⟨rfl, rfl, rfl, Nat.le_refl _, fun _ _ => rfl⟩
theorem UsesV.nth {w : World} {A : Option Addr} {n k : Nat} {us : List UseR} (h : UsesV w (.slice A n k) us) {i : Nat} {u : UseR} (hu : us[i]? = some u) : ∃ b off, A = some ⟨b, off, none⟩ ∧ b < w.heap.size ∧ ∀ (j : Nat) (x : Value), (useV u)[j]? = some x → w.cell? ⟨b, off + i * 6 + j, none⟩ = some x := by
  obtain ⟨_, _, e, h⟩ := h
  injection e with a
  subst a
  exact h i u hu
theorem WorksV.nth {w : World} {A : Option Addr} {n k : Nat} {us : List (Int × Int)} (h : WorksV w (.slice A n k) us) {i : Nat} {u : Int × Int} (hu : us[i]? = some u) : ∃ b off, A = some ⟨b, off, none⟩ ∧ b < w.heap.size ∧ ∀ (j : Nat) (x : Value), (workV u)[j]? = some x → w.cell? ⟨b, off + i * 2 + j, none⟩ = some x := by
  obtain ⟨_, _, e, h⟩ := h
  injection e with a
  subst a
  exact h i u hu

/-- A ratio's block. -/
def RatR (B : Nat) (W : World) : Prop := ∃ a b c, W.heap[B]? = some (.cells #[a, b, c] 25 (0, 0))
theorem RatR.next {B : Nat} {W W' : World} (h : RatR B W) (hb : Below W.heap.size W W') : RatR B W' := by
  obtain ⟨a, b, c, h⟩ := h
  exact ⟨a, b, c, (hb.block _ (Array.getElem?_eq_some_iff.1 h).1).trans h⟩
theorem RatR.new (W : World) (a b c : Value) : RatR W.heap.size (W.alloc (.cells #[a, b, c] 25)) := ⟨a, b, c, World.alloc_heap_new W _⟩
theorem RatR.lt {B : Nat} {W : World} (h : RatR B W) : B < W.heap.size := by
  obtain ⟨a, b, c, h⟩ := h
  exact (Array.getElem?_eq_some_iff.1 h).1

/-- What region 20 holds fast: the two amounts, and whatever lay below. -/
def SumS (w : World) (b1 o1 b2 o2 : Nat) (p q : Rt) (W : World) : Prop :=
  W.cell? ⟨b1, o1 + 1, none⟩ = some (.bool p.neg) ∧ W.cell? ⟨b1, o1 + 1 + 1, none⟩ = some (.string (bs p.n)) ∧ W.cell? ⟨b1, o1 + 1 + 2, none⟩ = some (.string (bs p.d)) ∧
  W.cell? ⟨b2, o2 + 1, none⟩ = some (.bool q.neg) ∧ W.cell? ⟨b2, o2 + 1 + 1, none⟩ = some (.string (bs q.n)) ∧ W.cell? ⟨b2, o2 + 1 + 2, none⟩ = some (.string (bs q.d)) ∧
  (b1 < w.heap.size ∧ b2 < w.heap.size) ∧ Below w.heap.size w W
theorem SumS.next {w W W' : World} {b1 o1 b2 o2 : Nat} {p q : Rt} (h : SumS w b1 o1 b2 o2 p q W) (hb : Below W.heap.size W W') : SumS w b1 o1 b2 o2 p q W' := by
  obtain ⟨h1, h2, h3, h4, h5, h6, ⟨h7, h8⟩, h9⟩ := h
  have hs := h9.size
  refine ⟨?_, ?_, ?_, ?_, ?_, ?_, ⟨h7, h8⟩, h9.trans (hb.mono hs)⟩
  · exact (hb.cell (p := ⟨b1, _, none⟩) (by simp; omega)).trans h1
  · exact (hb.cell (p := ⟨b1, _, none⟩) (by simp; omega)).trans h2
  · exact (hb.cell (p := ⟨b1, _, none⟩) (by simp; omega)).trans h3
  · exact (hb.cell (p := ⟨b2, _, none⟩) (by simp; omega)).trans h4
  · exact (hb.cell (p := ⟨b2, _, none⟩) (by simp; omega)).trans h5
  · exact (hb.cell (p := ⟨b2, _, none⟩) (by simp; omega)).trans h6
theorem SumS.set {w W : World} {b1 o1 b2 o2 : Nat} {p q : Rt} (h : SumS w b1 o1 b2 o2 p q W) {B : Nat} (hB : w.heap.size ≤ B) (j : Nat) (u : Value) : SumS w b1 o1 b2 o2 p q (W.setCell ⟨B, j, none⟩ u) := by
  obtain ⟨h1, h2, h3, h4, h5, h6, ⟨h7, h8⟩, h9⟩ := h
  have e : ∀ b o, b ≠ B → (W.setCell ⟨B, j, none⟩ u).cell? ⟨b, o, none⟩ = W.cell? ⟨b, o, none⟩ := fun b o hb => World.cell?_of_block (w := W) (Below.heap_setCell _ _ _ _ hb)
  refine ⟨(e _ _ (by omega)).trans h1, (e _ _ (by omega)).trans h2, (e _ _ (by omega)).trans h3, (e _ _ (by omega)).trans h4, (e _ _ (by omega)).trans h5, (e _ _ (by omega)).trans h6, ⟨h7, h8⟩, h9.setCell (by simp; omega) _⟩
theorem set3_cells {W : World} {B : Nat} (h : RatR B W) (x y z : Value) : (((W.setCell ⟨B, 0, none⟩ x).setCell ⟨B, 1, none⟩ y).setCell ⟨B, 2, none⟩ z).cell? ⟨B, 0, none⟩ = some x ∧ (((W.setCell ⟨B, 0, none⟩ x).setCell ⟨B, 1, none⟩ y).setCell ⟨B, 2, none⟩ z).cell? ⟨B, 1, none⟩ = some y ∧ (((W.setCell ⟨B, 0, none⟩ x).setCell ⟨B, 1, none⟩ y).setCell ⟨B, 2, none⟩ z).cell? ⟨B, 2, none⟩ = some z := by
  obtain ⟨a, b, c, h⟩ := h
  obtain ⟨q0, _⟩ := cellAt3 h 0 a rfl
  obtain ⟨q1, _⟩ := cellAt3 h 1 b rfl
  obtain ⟨q2, _⟩ := cellAt3 h 2 c rfl
  refine ⟨by simp [go_sem, q0], by simp [go_sem, q1], by simp [go_sem, q2]⟩

set_option maxRecDepth 100000 in
set_option maxHeartbeats 8000000 in
theorem sums_limit (A A' : Option Addr) (cap cap' : Nat) (l : List In) (c : List Int) (n d n' d' sn sd : ByteArray) (w : World) (hv : CodeV w (.slice A l.length cap) l) (hc : IntsV w (.slice A' c.length cap') c) (hl : l.length ≤ 9223372036854775807) (hcl : c.length ≤ 9223372036854775807) (hT : Tab w) (hfew : fewL l = true) (hr : (decide (n.size ≤ 40) && decide (d.size ≤ 40)) = true) (hr' : (decide (n'.size ≤ 40) && decide (d'.size ≤ 40)) = true) (h12 : c.length ≤ 12) (h60 : l.length ≤ 60) (N NW : Nat) (s t : Mst) (_hN : N ≤ 60) (_hM : NW ≤ 60) (h5 : runE l c false n d (l.length : Int) = (0, s)) (h6 : runE l c false n' d' (l.length : Int) = (0, t)) (hlead : t.lead = s.lead) (hu1 : s.uses.length = N) (hu2 : t.uses.length = N) (hw1 : s.works.length = NW) (hw2 : t.works.length = NW)
    (hadd : ∀ W, Tab W → Calls Tryz.prog 12 #[.agg #[.bool false, .string n, .string d], .agg #[.bool false, .string n', .string d']] W (Ret W (.tuple #[.agg #[.bool false, .string sn, .string sd], .int .i64 0]))) (h7 : (runE l c false sn sd (l.length : Int)).1 = 2) :
    Calls Tryz.prog 4 #[.slice A l.length cap, .slice A' c.length cap', .agg #[.bool false, .string n, .string d], .agg #[.bool false, .string n', .string d']] w (Ret w (.bool true)) := by
  have hnot : ∀ (x : Bool) (w : World), (Op.unary .not (.bool x)).run Tryz.prog w = .ok (.bool (!x)) w := fun _ _ => rfl
  have HT := Lib.hid hT
  have HC := Lib.hid hv
  have HI := Lib.hid hc
  have HADD := Lib.hid hadd
  clear hT hv hc hadd
  go_enter Tryz.func4, Tryz.ntmps4
  have K : Hid (Blk (w.alloc (.cells #[.bool false, .string n, .string d] 25)) (w.heap.size) [.bool false, .string n, .string d] 25) := by
    have := Blk.new w [.bool false, .string n, .string d] 25
    exact this
  have M : Hid (Blk ((w.alloc (.cells #[.bool false, .string n, .string d] 25)).alloc (.cells #[.bool false, .string n', .string d'] 25)) (w.heap.size + 1) [.bool false, .string n', .string d'] 25) := by
    have := Blk.new (w.alloc (.cells #[.bool false, .string n, .string d] 25)) [.bool false, .string n', .string d'] 25
    rwa [World.size_alloc] at this
  go_wp2_with fail
  refine (sane_any _ (HT.out.below (((Below.refl w.heap.size w).alloc (Below.refl w.heap.size w).size (.cells #[.bool false, .string n, .string d] 25)).alloc ((Below.refl w.heap.size w).alloc (Below.refl w.heap.size w).size (.cells #[.bool false, .string n, .string d] 25)).size (.cells #[.bool false, .string n', .string d'] 25)))).mono ?_
  rintro e w1 ⟨rfl, hb⟩
  have HB_1 := Lib.hid ((((Below.refl w.heap.size w).alloc (Below.refl w.heap.size w).size (.cells #[.bool false, .string n, .string d] 25)).alloc ((Below.refl w.heap.size w).alloc (Below.refl w.heap.size w).size (.cells #[.bool false, .string n, .string d] 25)).size (.cells #[.bool false, .string n', .string d'] 25)).trans (hb.mono (((Below.refl w.heap.size w).alloc (Below.refl w.heap.size w).size (.cells #[.bool false, .string n, .string d] 25)).alloc ((Below.refl w.heap.size w).alloc (Below.refl w.heap.size w).size (.cells #[.bool false, .string n, .string d] 25)).size (.cells #[.bool false, .string n', .string d'] 25)).size))
  have C_1 := Lib.hid (((HC.out.below ((Below.refl _ _).alloc (Nat.le_refl _) (.cells #[.bool false, .string n, .string d] 25))).below ((Below.refl _ _).alloc (Nat.le_refl _) (.cells #[.bool false, .string n', .string d'] 25))).below hb)
  have I_1 := Lib.hid (((HI.out.below ((Below.refl _ _).alloc (Nat.le_refl _) (.cells #[.bool false, .string n, .string d] 25))).below ((Below.refl _ _).alloc (Nat.le_refl _) (.cells #[.bool false, .string n', .string d'] 25))).below hb)
  have K_1 := Lib.hid ((K.out.alloc (.cells #[.bool false, .string n', .string d'] 25)).below hb (K.out.alloc (.cells #[.bool false, .string n', .string d'] 25)).lt)
  have M_1 := Lib.hid (M.out.below hb M.out.lt)
  clear hb
  go_wp2_with fail
  refine (few_any _ l _ C_1.out hl).mono ?_
  rw [hfew]
  rintro e w2 ⟨rfl, hb⟩
  have HB_2 := Lib.hid (HB_1.out.trans (hb.mono HB_1.out.size))
  have C_2 := Lib.hid (C_1.out.below hb)
  have I_2 := Lib.hid (I_1.out.below hb)
  have K_2 := Lib.hid (K_1.out.below hb K_1.out.lt)
  have M_2 := Lib.hid (M_1.out.below hb M_1.out.lt)
  clear hb
  obtain ⟨q0, _⟩ := K_2.out.at 0 _ rfl
  obtain ⟨q1, _⟩ := K_2.out.at 1 _ rfl
  obtain ⟨q2, _⟩ := K_2.out.at 2 _ rfl
  have hq := K_2.out.lt
  go_wp2_with fail
  refine (fewR_any false n d _).mono ?_
  rw [hr]
  rintro e w3 ⟨rfl, hb⟩
  have HB_3 := Lib.hid (HB_2.out.trans (hb.mono HB_2.out.size))
  have C_3 := Lib.hid (C_2.out.below hb)
  have I_3 := Lib.hid (I_2.out.below hb)
  have K_3 := Lib.hid (K_2.out.below hb K_2.out.lt)
  have M_3 := Lib.hid (M_2.out.below hb M_2.out.lt)
  clear hb
  clear q0 q1 q2 hq
  obtain ⟨p0, _⟩ := M_3.out.at 0 _ rfl
  obtain ⟨p1, _⟩ := M_3.out.at 1 _ rfl
  obtain ⟨p2, _⟩ := M_3.out.at 2 _ rfl
  have hp := M_3.out.lt
  go_wp2_with fail
  refine (fewR_any false n' d' _).mono ?_
  rw [hr']
  rintro e w4 ⟨rfl, hb⟩
  have HB_4 := Lib.hid (HB_3.out.trans (hb.mono HB_3.out.size))
  have C_4 := Lib.hid (C_3.out.below hb)
  have I_4 := Lib.hid (I_3.out.below hb)
  have K_4 := Lib.hid (K_3.out.below hb K_3.out.lt)
  have M_4 := Lib.hid (M_3.out.below hb M_3.out.lt)
  clear hb
  clear p0 p1 p2 hp
  have t1 : decide ((12 : Int) < (c.length : Int)) = false := by simp; omega
  obtain ⟨q0, _⟩ := K_4.out.at 0 _ rfl
  obtain ⟨q1, _⟩ := K_4.out.at 1 _ rfl
  obtain ⟨q2, _⟩ := K_4.out.at 2 _ rfl
  have hq := K_4.out.lt
  go_wp2_with fail
  refine (Run_any _ _ l c false n d (l.length : Int) _ C_4.out (by omega) I_4.out (by omega) (by omega) (HT.out.below HB_4.out)).mono ?_
  rw [h5]
  rintro e w5 ⟨hb, hr⟩
  have HB_5 := Lib.hid (HB_4.out.trans (hb.mono HB_4.out.size))
  have C_5 := Lib.hid (C_4.out.below hb)
  have I_5 := Lib.hid (I_4.out.below hb)
  have K_5 := Lib.hid (K_4.out.below hb K_4.out.lt)
  have M_5 := Lib.hid (M_4.out.below hb M_4.out.lt)
  clear q0 q1 q2 hq
  obtain ⟨u1, v1, rfl, hu, hw⟩ : ∃ uv wv, e = .returned (.tuple #[uv, wv, .int .i64 s.lead, .int .i64 (s.fuel : Int), .int .i64 0]) ∧ _ ∧ _ := hr.elim (fun h => h.2) (fun h => absurd rfl h.1)
  have hU := UsesV.of_owns (us := s.uses) hu
  have hV := WorksV.of_owns (us := s.works) hw
  obtain ⟨A1, k1, rfl⟩ : ∃ A k, u1 = .slice A N k := by obtain ⟨A, k, e, _⟩ := id hU; exact ⟨A, k, by rw [e, hu1]⟩
  obtain ⟨B1, m1, rfl⟩ : ∃ A k, v1 = .slice A NW k := by obtain ⟨A, k, e, _⟩ := id hV; exact ⟨A, k, by rw [e, hw1]⟩
  have U1_5 := Lib.hid hU
  have V1_5 := Lib.hid hV
  clear hr hu hw hU hV
  clear hb
  obtain ⟨p0, _⟩ := M_5.out.at 0 _ rfl
  obtain ⟨p1, _⟩ := M_5.out.at 1 _ rfl
  obtain ⟨p2, _⟩ := M_5.out.at 2 _ rfl
  have hp := M_5.out.lt
  go_wp2_with fail
  refine (Run_any _ _ l c false n' d' (l.length : Int) _ C_5.out (by omega) I_5.out (by omega) (by omega) (HT.out.below HB_5.out)).mono ?_
  rw [h6]
  rintro e w6 ⟨hb, hr⟩
  have HB_6 := Lib.hid (HB_5.out.trans (hb.mono HB_5.out.size))
  have C_6 := Lib.hid (C_5.out.below hb)
  have I_6 := Lib.hid (I_5.out.below hb)
  have K_6 := Lib.hid (K_5.out.below hb K_5.out.lt)
  have M_6 := Lib.hid (M_5.out.below hb M_5.out.lt)
  have U1_6 := Lib.hid (U1_5.out.below hb)
  have V1_6 := Lib.hid (V1_5.out.below hb)
  clear p0 p1 p2 hp
  obtain ⟨u2, v2, rfl, hu, hw⟩ : ∃ uv wv, e = .returned (.tuple #[uv, wv, .int .i64 t.lead, .int .i64 (t.fuel : Int), .int .i64 0]) ∧ _ ∧ _ := hr.elim (fun h => h.2) (fun h => absurd rfl h.1)
  have hU := UsesV.of_owns (us := t.uses) hu
  have hV := WorksV.of_owns (us := t.works) hw
  obtain ⟨A2, k2, rfl⟩ : ∃ A k, u2 = .slice A N k := by obtain ⟨A, k, e, _⟩ := id hU; exact ⟨A, k, by rw [e, hu2]⟩
  obtain ⟨B2, m2, rfl⟩ : ∃ A k, v2 = .slice A NW k := by obtain ⟨A, k, e, _⟩ := id hV; exact ⟨A, k, by rw [e, hw2]⟩
  have U2_6 := Lib.hid hU
  have V2_6 := Lib.hid hV
  clear hr hu hw hU hV
  clear hb
  rw [hlead]
  obtain ⟨q0, _⟩ := K_6.out.at 0 _ rfl
  obtain ⟨q1, _⟩ := K_6.out.at 1 _ rfl
  obtain ⟨q2, _⟩ := K_6.out.at 2 _ rfl
  have hq := K_6.out.lt
  obtain ⟨p0, _⟩ := M_6.out.at 0 _ rfl
  obtain ⟨p1, _⟩ := M_6.out.at 1 _ rfl
  obtain ⟨p2, _⟩ := M_6.out.at 2 _ rfl
  have hp := M_6.out.lt
  go_wp2_with fail
  refine (HADD.out _ (HT.out.below HB_6.out)).mono ?_
  rintro e w7 ⟨rfl, hb⟩
  have HB_7 := Lib.hid (HB_6.out.trans (hb.mono HB_6.out.size))
  have C_7 := Lib.hid (C_6.out.below hb)
  have I_7 := Lib.hid (I_6.out.below hb)
  have K_7 := Lib.hid (K_6.out.below hb K_6.out.lt)
  have M_7 := Lib.hid (M_6.out.below hb M_6.out.lt)
  have U1_7 := Lib.hid (U1_6.out.below hb)
  have V1_7 := Lib.hid (V1_6.out.below hb)
  have U2_7 := Lib.hid (U2_6.out.below hb)
  have V2_7 := Lib.hid (V2_6.out.below hb)
  clear hb
  clear q0 q1 q2 hq
  clear p0 p1 p2 hp
  go_wp2_with fail
  refine gen_world (K := fun W => Calls Tryz.prog _ _ W _) (fun W2 => Below w7.heap.size w7 W2) ?_ ?_
  · exact (Below.refl _ _).alloc (Nat.le_refl _) _
  intro w8 hb
  have HB_8 := Lib.hid (HB_7.out.trans (hb.mono HB_7.out.size))
  have C_8 := Lib.hid (C_7.out.below hb)
  have I_8 := Lib.hid (I_7.out.below hb)
  have K_8 := Lib.hid (K_7.out.below hb K_7.out.lt)
  have M_8 := Lib.hid (M_7.out.below hb M_7.out.lt)
  have U1_8 := Lib.hid (U1_7.out.below hb)
  have V1_8 := Lib.hid (V1_7.out.below hb)
  have U2_8 := Lib.hid (U2_7.out.below hb)
  have V2_8 := Lib.hid (V2_7.out.below hb)
  clear hb
  clear K_8
  clear M_8
  refine (Run_any _ _ l c false sn sd (l.length : Int) _ C_8.out (by omega) I_8.out (by omega) (by omega) (HT.out.below HB_8.out)).mono ?_
  rintro e w9 ⟨hb, hr⟩
  have HB_9 := Lib.hid (HB_8.out.trans (hb.mono HB_8.out.size))
  have C_9 := Lib.hid (C_8.out.below hb)
  have I_9 := Lib.hid (I_8.out.below hb)
  have U1_9 := Lib.hid (U1_8.out.below hb)
  have V1_9 := Lib.hid (V1_8.out.below hb)
  have U2_9 := Lib.hid (U2_8.out.below hb)
  have V2_9 := Lib.hid (V2_8.out.below hb)
  clear hb
  obtain rfl := hr.elim (fun h => absurd (h7.symm.trans h.1) (by omega)) (fun h => h.2)
  rw [h7]
  clear hr
  go_wp2
  go_ret
  exact ⟨rfl, HB_9.out⟩

/-- What a round of the first loop asks. -/
def UseH (x : UseR × UseR × UseR) : Prop := x.2.1.item = x.1.item ∧ x.2.2.item = x.1.item ∧ x.2.2.out = x.1.out ∧ x.2.2.back = x.1.back ∧ x.2.2.amt.neg = false ∧ ∀ W, Tab W → Calls Tryz.prog 12 #[ratV x.1.amt, ratV x.2.1.amt] W (Ret W (.tuple #[ratV x.2.2.amt, .int .i64 0]))
set_option maxRecDepth 100000 in
set_option maxHeartbeats 8000000 in
theorem sums_good (A A' : Option Addr) (cap cap' : Nat) (l : List In) (c : List Int) (n d n' d' sn sd : ByteArray) (w : World) (hv : CodeV w (.slice A l.length cap) l) (hc : IntsV w (.slice A' c.length cap') c) (hl : l.length ≤ 9223372036854775807) (hcl : c.length ≤ 9223372036854775807) (hT : Tab w) (hfew : fewL l = true) (hr : (decide (n.size ≤ 40) && decide (d.size ≤ 40)) = true) (hr' : (decide (n'.size ≤ 40) && decide (d'.size ≤ 40)) = true) (h12 : c.length ≤ 12) (h60 : l.length ≤ 60) (N NW : Nat) (s t : Mst) (_hN : N ≤ 60) (_hM : NW ≤ 60) (h5 : runE l c false n d (l.length : Int) = (0, s)) (h6 : runE l c false n' d' (l.length : Int) = (0, t)) (hlead : t.lead = s.lead) (hu1 : s.uses.length = N) (hu2 : t.uses.length = N) (hw1 : s.works.length = NW) (hw2 : t.works.length = NW)
    (hadd : ∀ W, Tab W → Calls Tryz.prog 12 #[.agg #[.bool false, .string n, .string d], .agg #[.bool false, .string n', .string d']] W (Ret W (.tuple #[.agg #[.bool false, .string sn, .string sd], .int .i64 0]))) (r : Mst) (lu : List (UseR × UseR × UseR)) (h7 : runE l c false sn sd (l.length : Int) = (0, r)) (hlead3 : r.lead = s.lead) (hu3 : r.uses.length = N) (hw3 : r.works.length = NW) (hs1 : s.uses = lu.map (·.1)) (hs2 : t.uses = lu.map (·.2.1)) (hs3 : r.uses = lu.map (·.2.2)) (hlN : lu.length = N) (hlu : ∀ x ∈ lu, UseH x) (lw : List ((Int × Int) × (Int × Int) × (Int × Int))) (ht1 : s.works = lw.map (·.1)) (ht2 : t.works = lw.map (·.2.1)) (ht3 : r.works = lw.map (·.2.2)) (hlW : lw.length = NW) (hlw : ∀ x ∈ lw, WorkOk x) :
    Calls Tryz.prog 4 #[.slice A l.length cap, .slice A' c.length cap', .agg #[.bool false, .string n, .string d], .agg #[.bool false, .string n', .string d']] w (Ret w (.bool true)) := by
  have hnot : ∀ (x : Bool) (w : World), (Op.unary .not (.bool x)).run Tryz.prog w = .ok (.bool (!x)) w := fun _ _ => rfl
  have HT := Lib.hid hT
  have HC := Lib.hid hv
  have HI := Lib.hid hc
  have HADD := Lib.hid hadd
  clear hT hv hc hadd
  go_enter Tryz.func4, Tryz.ntmps4
  have K : Hid (Blk (w.alloc (.cells #[.bool false, .string n, .string d] 25)) (w.heap.size) [.bool false, .string n, .string d] 25) := by
    have := Blk.new w [.bool false, .string n, .string d] 25
    exact this
  have M : Hid (Blk ((w.alloc (.cells #[.bool false, .string n, .string d] 25)).alloc (.cells #[.bool false, .string n', .string d'] 25)) (w.heap.size + 1) [.bool false, .string n', .string d'] 25) := by
    have := Blk.new (w.alloc (.cells #[.bool false, .string n, .string d] 25)) [.bool false, .string n', .string d'] 25
    rwa [World.size_alloc] at this
  go_wp2_with fail
  refine (sane_any _ (HT.out.below (((Below.refl w.heap.size w).alloc (Below.refl w.heap.size w).size (.cells #[.bool false, .string n, .string d] 25)).alloc ((Below.refl w.heap.size w).alloc (Below.refl w.heap.size w).size (.cells #[.bool false, .string n, .string d] 25)).size (.cells #[.bool false, .string n', .string d'] 25)))).mono ?_
  rintro e w1 ⟨rfl, hb⟩
  have HB_1 := Lib.hid ((((Below.refl w.heap.size w).alloc (Below.refl w.heap.size w).size (.cells #[.bool false, .string n, .string d] 25)).alloc ((Below.refl w.heap.size w).alloc (Below.refl w.heap.size w).size (.cells #[.bool false, .string n, .string d] 25)).size (.cells #[.bool false, .string n', .string d'] 25)).trans (hb.mono (((Below.refl w.heap.size w).alloc (Below.refl w.heap.size w).size (.cells #[.bool false, .string n, .string d] 25)).alloc ((Below.refl w.heap.size w).alloc (Below.refl w.heap.size w).size (.cells #[.bool false, .string n, .string d] 25)).size (.cells #[.bool false, .string n', .string d'] 25)).size))
  have C_1 := Lib.hid (((HC.out.below ((Below.refl _ _).alloc (Nat.le_refl _) (.cells #[.bool false, .string n, .string d] 25))).below ((Below.refl _ _).alloc (Nat.le_refl _) (.cells #[.bool false, .string n', .string d'] 25))).below hb)
  have I_1 := Lib.hid (((HI.out.below ((Below.refl _ _).alloc (Nat.le_refl _) (.cells #[.bool false, .string n, .string d] 25))).below ((Below.refl _ _).alloc (Nat.le_refl _) (.cells #[.bool false, .string n', .string d'] 25))).below hb)
  have K_1 := Lib.hid ((K.out.alloc (.cells #[.bool false, .string n', .string d'] 25)).below hb (K.out.alloc (.cells #[.bool false, .string n', .string d'] 25)).lt)
  have M_1 := Lib.hid (M.out.below hb M.out.lt)
  clear hb
  go_wp2_with fail
  refine (few_any _ l _ C_1.out hl).mono ?_
  rw [hfew]
  rintro e w2 ⟨rfl, hb⟩
  have HB_2 := Lib.hid (HB_1.out.trans (hb.mono HB_1.out.size))
  have C_2 := Lib.hid (C_1.out.below hb)
  have I_2 := Lib.hid (I_1.out.below hb)
  have K_2 := Lib.hid (K_1.out.below hb K_1.out.lt)
  have M_2 := Lib.hid (M_1.out.below hb M_1.out.lt)
  clear hb
  obtain ⟨q0, _⟩ := K_2.out.at 0 _ rfl
  obtain ⟨q1, _⟩ := K_2.out.at 1 _ rfl
  obtain ⟨q2, _⟩ := K_2.out.at 2 _ rfl
  have hq := K_2.out.lt
  go_wp2_with fail
  refine (fewR_any false n d _).mono ?_
  rw [hr]
  rintro e w3 ⟨rfl, hb⟩
  have HB_3 := Lib.hid (HB_2.out.trans (hb.mono HB_2.out.size))
  have C_3 := Lib.hid (C_2.out.below hb)
  have I_3 := Lib.hid (I_2.out.below hb)
  have K_3 := Lib.hid (K_2.out.below hb K_2.out.lt)
  have M_3 := Lib.hid (M_2.out.below hb M_2.out.lt)
  clear hb
  clear q0 q1 q2 hq
  obtain ⟨p0, _⟩ := M_3.out.at 0 _ rfl
  obtain ⟨p1, _⟩ := M_3.out.at 1 _ rfl
  obtain ⟨p2, _⟩ := M_3.out.at 2 _ rfl
  have hp := M_3.out.lt
  go_wp2_with fail
  refine (fewR_any false n' d' _).mono ?_
  rw [hr']
  rintro e w4 ⟨rfl, hb⟩
  have HB_4 := Lib.hid (HB_3.out.trans (hb.mono HB_3.out.size))
  have C_4 := Lib.hid (C_3.out.below hb)
  have I_4 := Lib.hid (I_3.out.below hb)
  have K_4 := Lib.hid (K_3.out.below hb K_3.out.lt)
  have M_4 := Lib.hid (M_3.out.below hb M_3.out.lt)
  clear hb
  clear p0 p1 p2 hp
  have t1 : decide ((12 : Int) < (c.length : Int)) = false := by simp; omega
  obtain ⟨q0, _⟩ := K_4.out.at 0 _ rfl
  obtain ⟨q1, _⟩ := K_4.out.at 1 _ rfl
  obtain ⟨q2, _⟩ := K_4.out.at 2 _ rfl
  have hq := K_4.out.lt
  go_wp2_with fail
  refine (Run_any _ _ l c false n d (l.length : Int) _ C_4.out (by omega) I_4.out (by omega) (by omega) (HT.out.below HB_4.out)).mono ?_
  rw [h5]
  rintro e w5 ⟨hb, hr⟩
  have HB_5 := Lib.hid (HB_4.out.trans (hb.mono HB_4.out.size))
  have C_5 := Lib.hid (C_4.out.below hb)
  have I_5 := Lib.hid (I_4.out.below hb)
  have K_5 := Lib.hid (K_4.out.below hb K_4.out.lt)
  have M_5 := Lib.hid (M_4.out.below hb M_4.out.lt)
  clear q0 q1 q2 hq
  obtain ⟨u1, v1, rfl, hu, hw⟩ : ∃ uv wv, e = .returned (.tuple #[uv, wv, .int .i64 s.lead, .int .i64 (s.fuel : Int), .int .i64 0]) ∧ _ ∧ _ := hr.elim (fun h => h.2) (fun h => absurd rfl h.1)
  have hU := UsesV.of_owns (us := s.uses) hu
  have hV := WorksV.of_owns (us := s.works) hw
  obtain ⟨A1, k1, rfl⟩ : ∃ A k, u1 = .slice A N k := by obtain ⟨A, k, e, _⟩ := id hU; exact ⟨A, k, by rw [e, hu1]⟩
  obtain ⟨B1, m1, rfl⟩ : ∃ A k, v1 = .slice A NW k := by obtain ⟨A, k, e, _⟩ := id hV; exact ⟨A, k, by rw [e, hw1]⟩
  have U1_5 := Lib.hid hU
  have V1_5 := Lib.hid hV
  clear hr hu hw hU hV
  clear hb
  obtain ⟨p0, _⟩ := M_5.out.at 0 _ rfl
  obtain ⟨p1, _⟩ := M_5.out.at 1 _ rfl
  obtain ⟨p2, _⟩ := M_5.out.at 2 _ rfl
  have hp := M_5.out.lt
  go_wp2_with fail
  refine (Run_any _ _ l c false n' d' (l.length : Int) _ C_5.out (by omega) I_5.out (by omega) (by omega) (HT.out.below HB_5.out)).mono ?_
  rw [h6]
  rintro e w6 ⟨hb, hr⟩
  have HB_6 := Lib.hid (HB_5.out.trans (hb.mono HB_5.out.size))
  have C_6 := Lib.hid (C_5.out.below hb)
  have I_6 := Lib.hid (I_5.out.below hb)
  have K_6 := Lib.hid (K_5.out.below hb K_5.out.lt)
  have M_6 := Lib.hid (M_5.out.below hb M_5.out.lt)
  have U1_6 := Lib.hid (U1_5.out.below hb)
  have V1_6 := Lib.hid (V1_5.out.below hb)
  clear p0 p1 p2 hp
  obtain ⟨u2, v2, rfl, hu, hw⟩ : ∃ uv wv, e = .returned (.tuple #[uv, wv, .int .i64 t.lead, .int .i64 (t.fuel : Int), .int .i64 0]) ∧ _ ∧ _ := hr.elim (fun h => h.2) (fun h => absurd rfl h.1)
  have hU := UsesV.of_owns (us := t.uses) hu
  have hV := WorksV.of_owns (us := t.works) hw
  obtain ⟨A2, k2, rfl⟩ : ∃ A k, u2 = .slice A N k := by obtain ⟨A, k, e, _⟩ := id hU; exact ⟨A, k, by rw [e, hu2]⟩
  obtain ⟨B2, m2, rfl⟩ : ∃ A k, v2 = .slice A NW k := by obtain ⟨A, k, e, _⟩ := id hV; exact ⟨A, k, by rw [e, hw2]⟩
  have U2_6 := Lib.hid hU
  have V2_6 := Lib.hid hV
  clear hr hu hw hU hV
  clear hb
  rw [hlead]
  obtain ⟨q0, _⟩ := K_6.out.at 0 _ rfl
  obtain ⟨q1, _⟩ := K_6.out.at 1 _ rfl
  obtain ⟨q2, _⟩ := K_6.out.at 2 _ rfl
  have hq := K_6.out.lt
  obtain ⟨p0, _⟩ := M_6.out.at 0 _ rfl
  obtain ⟨p1, _⟩ := M_6.out.at 1 _ rfl
  obtain ⟨p2, _⟩ := M_6.out.at 2 _ rfl
  have hp := M_6.out.lt
  go_wp2_with fail
  refine (HADD.out _ (HT.out.below HB_6.out)).mono ?_
  rintro e w7 ⟨rfl, hb⟩
  have HB_7 := Lib.hid (HB_6.out.trans (hb.mono HB_6.out.size))
  have C_7 := Lib.hid (C_6.out.below hb)
  have I_7 := Lib.hid (I_6.out.below hb)
  have K_7 := Lib.hid (K_6.out.below hb K_6.out.lt)
  have M_7 := Lib.hid (M_6.out.below hb M_6.out.lt)
  have U1_7 := Lib.hid (U1_6.out.below hb)
  have V1_7 := Lib.hid (V1_6.out.below hb)
  have U2_7 := Lib.hid (U2_6.out.below hb)
  have V2_7 := Lib.hid (V2_6.out.below hb)
  clear hb
  clear q0 q1 q2 hq
  clear p0 p1 p2 hp
  go_wp2_with fail
  refine gen_world (K := fun W => Calls Tryz.prog _ _ W _) (fun W2 => Below w7.heap.size w7 W2) ?_ ?_
  · exact (Below.refl _ _).alloc (Nat.le_refl _) _
  intro w8 hb
  have HB_8 := Lib.hid (HB_7.out.trans (hb.mono HB_7.out.size))
  have C_8 := Lib.hid (C_7.out.below hb)
  have I_8 := Lib.hid (I_7.out.below hb)
  have K_8 := Lib.hid (K_7.out.below hb K_7.out.lt)
  have M_8 := Lib.hid (M_7.out.below hb M_7.out.lt)
  have U1_8 := Lib.hid (U1_7.out.below hb)
  have V1_8 := Lib.hid (V1_7.out.below hb)
  have U2_8 := Lib.hid (U2_7.out.below hb)
  have V2_8 := Lib.hid (V2_7.out.below hb)
  clear hb
  clear K_8
  clear M_8
  refine (Run_any _ _ l c false sn sd (l.length : Int) _ C_8.out (by omega) I_8.out (by omega) (by omega) (HT.out.below HB_8.out)).mono ?_
  rw [h7]
  rintro e w9 ⟨hb, hr⟩
  have HB_9 := Lib.hid (HB_8.out.trans (hb.mono HB_8.out.size))
  have C_9 := Lib.hid (C_8.out.below hb)
  have I_9 := Lib.hid (I_8.out.below hb)
  have U1_9 := Lib.hid (U1_8.out.below hb)
  have V1_9 := Lib.hid (V1_8.out.below hb)
  have U2_9 := Lib.hid (U2_8.out.below hb)
  have V2_9 := Lib.hid (V2_8.out.below hb)
  obtain ⟨u3, v3, rfl, hu, hw⟩ : ∃ uv wv, e = .returned (.tuple #[uv, wv, .int .i64 r.lead, .int .i64 (r.fuel : Int), .int .i64 0]) ∧ _ ∧ _ := hr.elim (fun h => h.2) (fun h => absurd rfl h.1)
  have hU := UsesV.of_owns (us := r.uses) hu
  have hV := WorksV.of_owns (us := r.works) hw
  obtain ⟨A3, k3, rfl⟩ : ∃ A k, u3 = .slice A N k := by obtain ⟨A, k, e, _⟩ := id hU; exact ⟨A, k, by rw [e, hu3]⟩
  obtain ⟨B3, m3, rfl⟩ : ∃ A k, v3 = .slice A NW k := by obtain ⟨A, k, e, _⟩ := id hV; exact ⟨A, k, by rw [e, hw3]⟩
  have U3_9 := Lib.hid hU
  have V3_9 := Lib.hid hV
  clear hr hu hw hU hV
  clear hb
  rw [hlead3]
  go_wp2
  go_loopw [142] (fun i wr => ∃ k : Nat, k ≤ N ∧ i = .int .i64 k ∧ Below w9.heap.size w9 wr) (fun i _ => N - (intOf i).toNat)
  case atStart => exact ⟨0, Nat.zero_le _, rfl, Below.refl _ _⟩
  case round =>
    obtain ⟨k, hk, rfl, hb⟩ := hrel
    have HLB := Lib.hid hb
    -- w10
    have HB_10 := Lib.hid (HB_9.out.trans (hb.mono HB_9.out.size))
    have C_10 := Lib.hid (C_9.out.below hb)
    have I_10 := Lib.hid (I_9.out.below hb)
    have U1_10 := Lib.hid (U1_9.out.below hb)
    have V1_10 := Lib.hid (V1_9.out.below hb)
    have U2_10 := Lib.hid (U2_9.out.below hb)
    have V2_10 := Lib.hid (V2_9.out.below hb)
    have U3_10 := Lib.hid (U3_9.out.below hb)
    have V3_10 := Lib.hid (V3_9.out.below hb)
    clear hb
    by_cases hlt : k < N
    · skip
      obtain ⟨x, hx⟩ : ∃ x, lu[k]? = some x := ⟨lu[k]'(by omega), List.getElem?_eq_getElem (by omega)⟩
      obtain ⟨o1, o2, o3, o4, o5, o6⟩ := hlu x (List.mem_of_getElem? hx)
      have x1 : s.uses[k]? = some x.1 := by rw [hs1, List.getElem?_map, hx]; rfl
      have x2 : t.uses[k]? = some x.2.1 := by rw [hs2, List.getElem?_map, hx]; rfl
      have x3 : r.uses[k]? = some x.2.2 := by rw [hs3, List.getElem?_map, hx]; rfl
      obtain ⟨b1, f1, rfl, l1, c1⟩ := UsesV.nth U1_10.out x1
      obtain ⟨b2, f2, rfl, l2, c2⟩ := UsesV.nth U2_10.out x2
      obtain ⟨b3, f3, rfl, l3, c3⟩ := UsesV.nth U3_10.out x3
      clear hx x1 x2 x3
      have c10 := c1 0 _ rfl
      have c11 := c1 1 _ rfl
      have c12 := c1 2 _ rfl
      have c13 := c1 3 _ rfl
      have c14 := c1 4 _ rfl
      have c15 := c1 5 _ rfl
      simp only [Nat.add_zero] at c10
      clear c1
      have c20 := c2 0 _ rfl
      have c21 := c2 1 _ rfl
      have c22 := c2 2 _ rfl
      have c23 := c2 3 _ rfl
      have c24 := c2 4 _ rfl
      have c25 := c2 5 _ rfl
      simp only [Nat.add_zero] at c20
      clear c2
      have c30 := c3 0 _ rfl
      have c31 := c3 1 _ rfl
      have c32 := c3 2 _ rfl
      have c33 := c3 3 _ rfl
      have c34 := c3 4 _ rfl
      have c35 := c3 5 _ rfl
      simp only [Nat.add_zero] at c30
      clear c3
      have hi0 : (0 : Int) ≤ (k : Int) := by omega
      have hi1 : (k : Int) < (N : Int) := by omega
      have S0 : SumS wr b1 (f1 + k * 6) b2 (f2 + k * 6) x.1.amt x.2.1.amt wr.drew := ⟨c11, c12, c13, c21, c22, c23, ⟨l1, l2⟩, (Below.refl _ _).drew⟩
      clear o5
      unfold ratV at o6
      have HADD2 := Lib.hid o6
      have CC1 := Lib.hid (And.intro c10 (And.intro c11 (And.intro c12 (And.intro c13 (And.intro c14 c15)))))
      have CC2 := Lib.hid (And.intro c20 (And.intro c21 (And.intro c22 (And.intro c23 (And.intro c24 c25)))))
      have CC3 := Lib.hid (And.intro c30 (And.intro c31 (And.intro c32 (And.intro c33 (And.intro c34 c35)))))
      clear o6 c10 c11 c12 c13 c14 c15 c20 c21 c22 c23 c24 c25 c30 c31 c32 c33 c34 c35
      go_wp2
      refine wp_region_held_drew (S := (fun W => W.cell? ⟨b1, f1 + k * 6 + 1, none⟩ = some (.bool x.1.amt.neg) ∧ W.cell? ⟨b1, f1 + k * 6 + 1 + 1, none⟩ = some (.string (bs x.1.amt.n)) ∧ W.cell? ⟨b1, f1 + k * 6 + 1 + 2, none⟩ = some (.string (bs x.1.amt.d)) ∧ W.cell? ⟨b2, f2 + k * 6 + 1, none⟩ = some (.bool x.2.1.amt.neg) ∧ W.cell? ⟨b2, f2 + k * 6 + 1 + 1, none⟩ = some (.string (bs x.2.1.amt.n)) ∧ W.cell? ⟨b2, f2 + k * 6 + 1 + 2, none⟩ = some (.string (bs x.2.1.amt.d)) ∧ (b1 < wr.heap.size ∧ b2 < wr.heap.size) ∧ Below wr.heap.size wr W)) (by kernel_rfl) ?_ (fun hHeld => ?_)
      · exact S0
      refine rp_take (i := 0) (v := ?_) rfl (by kernel_rfl) (by kernel_rfl) (by kernel_rfl) (by rfl) (by assumption) ?_ (by exact fun _ _ _ h => h) ?_
      rotate_left
      · (intro w hSw; (try dsimp only at hSw); go_simp; try (with_reducible rfl))
      (try simp only [Act.put, List.setIfInBounds_toArray, List.set_cons_zero, List.set_cons_succ])
      refine rp_take (i := 1) (v := ?_) rfl (by kernel_rfl) (by kernel_rfl) (by kernel_rfl) (by rfl) (by assumption) ?_ (by exact fun _ _ _ h => h) ?_
      rotate_left
      · (intro w hSw; (try dsimp only at hSw); go_simp; try (with_reducible rfl))
      (try simp only [Act.put, List.setIfInBounds_toArray, List.set_cons_zero, List.set_cons_succ])
      refine rp_take (i := 2) (v := ?_) rfl (by kernel_rfl) (by kernel_rfl) (by kernel_rfl) (by rfl) (by assumption) ?_ (by exact fun _ _ _ h => h) ?_
      rotate_left
      · (intro w hSw; (try dsimp only at hSw); go_simp; try (with_reducible rfl))
      (try simp only [Act.put, List.setIfInBounds_toArray, List.set_cons_zero, List.set_cons_succ])
      refine rp_take (i := 3) (v := ?_) rfl (by kernel_rfl) (by kernel_rfl) (by kernel_rfl) (by rfl) (by assumption) ?_ (by exact fun _ _ _ h => h) ?_
      rotate_left
      · (intro w hSw; (try dsimp only at hSw); go_simp; try (with_reducible rfl))
      (try simp only [Act.put, List.setIfInBounds_toArray, List.set_cons_zero, List.set_cons_succ])
      refine rp_take (i := 4) (v := ?_) rfl (by kernel_rfl) (by kernel_rfl) (by kernel_rfl) (by rfl) (by assumption) ?_ (by exact fun _ _ _ h => h) ?_
      rotate_left
      · (intro w hSw; (try dsimp only at hSw); go_simp; try (with_reducible rfl))
      (try simp only [Act.put, List.setIfInBounds_toArray, List.set_cons_zero, List.set_cons_succ])
      refine rp_take (i := 5) (v := ?_) rfl (by kernel_rfl) (by kernel_rfl) (by kernel_rfl) (by rfl) (by assumption) ?_ (by exact fun _ _ _ h => h) ?_
      rotate_left
      · (intro w hSw; (try dsimp only at hSw); go_simp; try (with_reducible rfl))
      (try simp only [Act.put, List.setIfInBounds_toArray, List.set_cons_zero, List.set_cons_succ])
      refine rp_take (i := 6) (v := ?_) rfl (by kernel_rfl) (by kernel_rfl) (by kernel_rfl) (by rfl) (by assumption) ?_ (by exact fun _ _ _ h => h) ?_
      rotate_left
      · (intro w hSw; (try dsimp only at hSw); go_simp; try (with_reducible rfl))
      (try simp only [Act.put, List.setIfInBounds_toArray, List.set_cons_zero, List.set_cons_succ])
      refine rp_take (i := 7) (v := ?_) rfl (by kernel_rfl) (by kernel_rfl) (by kernel_rfl) (by rfl) (by assumption) ?_ (by exact fun _ _ _ h => h) ?_
      rotate_left
      · (intro w hSw; (try dsimp only at hSw); go_simp; try (with_reducible rfl))
      (try simp only [Act.put, List.setIfInBounds_toArray, List.set_cons_zero, List.set_cons_succ])
      refine rp_take (i := 8) (v := ?_) rfl (by kernel_rfl) (by kernel_rfl) (by kernel_rfl) (by rfl) (by assumption) ?_ (by exact fun _ _ _ h => h) ?_
      rotate_left
      · (intro w hSw; (try dsimp only at hSw); go_simp; try (with_reducible rfl))
      (try simp only [Act.put, List.setIfInBounds_toArray, List.set_cons_zero, List.set_cons_succ])
      refine rp_take (i := 9) (v := ?_) rfl (by kernel_rfl) (by kernel_rfl) (by kernel_rfl) (by rfl) (by assumption) ?_ (by exact fun _ _ _ h => h) ?_
      rotate_left
      · (intro w hSw; (try dsimp only at hSw); go_simp; try (with_reducible rfl))
      (try simp only [Act.put, List.setIfInBounds_toArray, List.set_cons_zero, List.set_cons_succ])
      refine wpAnyH_ready (rs := [10, 14]) (by kernel_rfl) (by simp) ?_
      refine rh_cons (i := 10) rfl (fun K hK => ?_) ?_
      · go_simp
        refine (HADD2.out _ (HT.out.below (HB_10.out.trans (hHeld.2.2.2.2.2.2.2.mono HB_10.out.size)))).mono ?_
        rintro e wa ⟨rfl, hba⟩
        have S1 := SumS.next hHeld hba
        go_wp2_with fail
        refine hK.out _ _ ?_ (fun hHeld => ?_)
        · (try dsimp only)
          exact S1
        clear hK K
        (try simp only [Act.put, List.setIfInBounds_toArray, List.set_cons_zero, List.set_cons_succ])
        refine rp_take (i := 11) (v := ?_) rfl (by kernel_rfl) (by kernel_rfl) (by kernel_rfl) (by rfl) (by assumption) ?_ (by exact fun _ _ _ h => h) ?_
        rotate_left
        · (intro w hSw; (try dsimp only at hSw); go_simp; try (with_reducible rfl))
        (try simp only [Act.put, List.setIfInBounds_toArray, List.set_cons_zero, List.set_cons_succ])
        refine rp_take (i := 12) (v := ?_) rfl (by kernel_rfl) (by kernel_rfl) (by kernel_rfl) (by rfl) (by assumption) ?_ (by exact fun _ _ _ h => h) ?_
        rotate_left
        · (intro w hSw; (try dsimp only at hSw); go_simp; try (with_reducible rfl))
        (try simp only [Act.put, List.setIfInBounds_toArray, List.set_cons_zero, List.set_cons_succ])
        refine rp_take (i := 13) (v := ?_) rfl (by kernel_rfl) (by kernel_rfl) (by kernel_rfl) (by rfl) (by assumption) ?_ (by exact fun _ _ _ h => h) ?_
        rotate_left
        · (intro w hSw; (try dsimp only at hSw); go_simp; try (with_reducible rfl))
        (try simp only [Act.put, List.setIfInBounds_toArray, List.set_cons_zero, List.set_cons_succ])
        refine wpAnyH_ready (rs := [14]) (by kernel_rfl) (by simp) ?_
        refine rh_cons (i := 14) rfl (fun K hK => ?_) ?_
        · go_simp
          have hbn := (Below.refl wa.heap.size wa).alloc (Nat.le_refl _) (.cells #[.bool false, .string ⟨#[]⟩, .string ⟨#[]⟩] 25)
          have S1 := SumS.next hHeld hbn
          have R1 : RatR wa.heap.size _ := RatR.new wa (.bool false) (.string ⟨#[]⟩) (.string ⟨#[]⟩)
          refine hK.out _ _ ?_ (fun hHeld => ?_)
          · (try dsimp only)
            exact S1
          clear hK K
          (try simp only [Act.put, List.setIfInBounds_toArray, List.set_cons_zero, List.set_cons_succ])
          refine wpAnyH_ready (rs := [15]) (by kernel_rfl) (by simp) ?_
          refine rh_cons (i := 15) rfl (fun K hK => ?_) ?_
          · go_simp
            obtain ⟨r0, r1, r2, hr1⟩ := id R1
            obtain ⟨q0, g0⟩ := cellAt3 hr1 0 r0 rfl
            obtain ⟨q1, g1⟩ := cellAt3 hr1 1 r1 rfl
            obtain ⟨q2, g2⟩ := cellAt3 hr1 2 r2 rfl
            clear hr1
            go_simp
            refine gen_world (K := K _) (fun W2 => SumS wr b1 (f1 + k * 6) b2 (f2 + k * 6) x.1.amt x.2.1.amt W2 ∧ W2.cell? ⟨wa.heap.size, 0, none⟩ = some (.bool x.2.2.amt.neg) ∧ W2.cell? ⟨wa.heap.size, 1, none⟩ = some (.string (bs x.2.2.amt.n)) ∧ W2.cell? ⟨wa.heap.size, 2, none⟩ = some (.string (bs x.2.2.amt.d))) ?_ ?_
            · exact ⟨(by assumption : SumS wr b1 (f1 + k * 6) b2 (f2 + k * 6) x.1.amt x.2.1.amt wa).next ((Below.refl _ _).alloc (Nat.le_refl _) _), by simp [go_sem], by simp [go_sem], by simp [go_sem]⟩
            clear q0 q1 q2 g0 g1 g2 R1 S1
            intro W2 hW2
            obtain ⟨S1, z0, z1, z2⟩ := hW2
            refine hK.out _ _ ?_ (fun hHeld => ?_)
            · (try dsimp only)
              exact S1
            clear hK K
            (try simp only [Act.put, List.setIfInBounds_toArray, List.set_cons_zero, List.set_cons_succ])
            refine rp_take (i := 16) (v := ?_) rfl (by kernel_rfl) (by kernel_rfl) (by kernel_rfl) (by rfl) (by assumption) ?_ (by exact fun _ _ _ h => h) ?_
            rotate_left
            · (intro w hSw; (try dsimp only at hSw); go_simp; try (with_reducible rfl))
            (try simp only [Act.put, List.setIfInBounds_toArray, List.set_cons_zero, List.set_cons_succ])
            refine wpAnyH_done (by kernel_rfl) ?_ _
            have HBW := S1.2.2.2.2.2.2.2
            have y30 := (HBW.cell (p := ⟨b3, _, none⟩) l3).trans CC3.out.1
            have y31 := (HBW.cell (p := ⟨b3, _, none⟩) l3).trans CC3.out.2.1
            have y32 := (HBW.cell (p := ⟨b3, _, none⟩) l3).trans CC3.out.2.2.1
            have y33 := (HBW.cell (p := ⟨b3, _, none⟩) l3).trans CC3.out.2.2.2.1
            have y34 := (HBW.cell (p := ⟨b3, _, none⟩) l3).trans CC3.out.2.2.2.2.1
            have y35 := (HBW.cell (p := ⟨b3, _, none⟩) l3).trans CC3.out.2.2.2.2.2
            have y10 := (HBW.cell (p := ⟨b1, _, none⟩) l1).trans CC1.out.1
            have y14 := (HBW.cell (p := ⟨b1, _, none⟩) l1).trans CC1.out.2.2.2.2.1
            have y15 := (HBW.cell (p := ⟨b1, _, none⟩) l1).trans CC1.out.2.2.2.2.2
            have y20 := (HBW.cell (p := ⟨b2, _, none⟩) l2).trans CC2.out.1
            rw [o2] at y30
            rw [o3] at y34
            rw [o4] at y35
            rw [o1] at y20
            have hne := fun W => neq_use ⟨x.1.item, x.2.2.amt, x.1.out, x.1.back⟩ W
            have HBW2 := Lib.hid HBW
            clear HBW S1 o1 o2 o3 o4 hHeld CC1 CC2 CC3 HADD2 S0
            go_wp2
            go_quiet (fail)
            go_wp2
            exact ⟨⟨k + 1, by omega, by go_num, below_drewN (HLB.out.trans (HBW2.out.mono HLB.out.size)) _⟩, by simp [intOf]; omega⟩
          exact AllReadyH.nil
        exact AllReadyH.nil
      refine rh_cons (i := 14) rfl (fun K hK => ?_) ?_
      · go_simp
        have hbn := (Below.refl wr.drew.heap.size wr.drew).alloc (Nat.le_refl _) (.cells #[.bool false, .string ⟨#[]⟩, .string ⟨#[]⟩] 25)
        have S1 := SumS.next hHeld hbn
        have R1 : RatR wr.heap.size _ := RatR.new wr.drew (.bool false) (.string ⟨#[]⟩) (.string ⟨#[]⟩)
        refine hK.out _ _ ?_ (fun hHeld => ?_)
        · (try dsimp only)
          exact S1
        clear hK K
        (try simp only [Act.put, List.setIfInBounds_toArray, List.set_cons_zero, List.set_cons_succ])
        refine wpAnyH_ready (rs := [10]) (by kernel_rfl) (by simp) ?_
        refine rh_cons (i := 10) rfl (fun K hK => ?_) ?_
        · go_simp
          refine (HADD2.out _ (HT.out.below (HB_10.out.trans (hHeld.2.2.2.2.2.2.2.mono HB_10.out.size)))).mono ?_
          rintro e wa ⟨rfl, hba⟩
          have S1 := SumS.next hHeld hba
          have R1 := RatR.next (by assumption) hba
          go_wp2_with fail
          refine hK.out _ _ ?_ (fun hHeld => ?_)
          · (try dsimp only)
            exact S1
          clear hK K
          (try simp only [Act.put, List.setIfInBounds_toArray, List.set_cons_zero, List.set_cons_succ])
          refine rp_take (i := 11) (v := ?_) rfl (by kernel_rfl) (by kernel_rfl) (by kernel_rfl) (by rfl) (by assumption) ?_ (by exact fun _ _ _ h => h) ?_
          rotate_left
          · (intro w hSw; (try dsimp only at hSw); go_simp; try (with_reducible rfl))
          (try simp only [Act.put, List.setIfInBounds_toArray, List.set_cons_zero, List.set_cons_succ])
          refine rp_take (i := 12) (v := ?_) rfl (by kernel_rfl) (by kernel_rfl) (by kernel_rfl) (by rfl) (by assumption) ?_ (by exact fun _ _ _ h => h) ?_
          rotate_left
          · (intro w hSw; (try dsimp only at hSw); go_simp; try (with_reducible rfl))
          (try simp only [Act.put, List.setIfInBounds_toArray, List.set_cons_zero, List.set_cons_succ])
          refine rp_take (i := 13) (v := ?_) rfl (by kernel_rfl) (by kernel_rfl) (by kernel_rfl) (by rfl) (by assumption) ?_ (by exact fun _ _ _ h => h) ?_
          rotate_left
          · (intro w hSw; (try dsimp only at hSw); go_simp; try (with_reducible rfl))
          (try simp only [Act.put, List.setIfInBounds_toArray, List.set_cons_zero, List.set_cons_succ])
          refine wpAnyH_ready (rs := [15]) (by kernel_rfl) (by simp) ?_
          refine rh_cons (i := 15) rfl (fun K hK => ?_) ?_
          · go_simp
            obtain ⟨r0, r1, r2, hr1⟩ := id R1
            obtain ⟨q0, g0⟩ := cellAt3 hr1 0 r0 rfl
            obtain ⟨q1, g1⟩ := cellAt3 hr1 1 r1 rfl
            obtain ⟨q2, g2⟩ := cellAt3 hr1 2 r2 rfl
            clear hr1
            go_simp
            refine gen_world (K := K _) (fun W2 => SumS wr b1 (f1 + k * 6) b2 (f2 + k * 6) x.1.amt x.2.1.amt W2 ∧ W2.cell? ⟨wr.heap.size, 0, none⟩ = some (.bool x.2.2.amt.neg) ∧ W2.cell? ⟨wr.heap.size, 1, none⟩ = some (.string (bs x.2.2.amt.n)) ∧ W2.cell? ⟨wr.heap.size, 2, none⟩ = some (.string (bs x.2.2.amt.d))) ?_ ?_
            · have h3 := set3_cells (by assumption : RatR wr.heap.size wa) (.bool x.2.2.amt.neg) (.string (bs x.2.2.amt.n)) (.string (bs x.2.2.amt.d))
              exact ⟨((S1.set (Nat.le_refl _) 0 _).set (Nat.le_refl _) 1 _).set (Nat.le_refl _) 2 _, h3.1, h3.2.1, h3.2.2⟩
            clear q0 q1 q2 g0 g1 g2 R1 S1
            intro W2 hW2
            obtain ⟨S1, z0, z1, z2⟩ := hW2
            refine hK.out _ _ ?_ (fun hHeld => ?_)
            · (try dsimp only)
              exact S1
            clear hK K
            (try simp only [Act.put, List.setIfInBounds_toArray, List.set_cons_zero, List.set_cons_succ])
            refine rp_take (i := 16) (v := ?_) rfl (by kernel_rfl) (by kernel_rfl) (by kernel_rfl) (by rfl) (by assumption) ?_ (by exact fun _ _ _ h => h) ?_
            rotate_left
            · (intro w hSw; (try dsimp only at hSw); go_simp; try (with_reducible rfl))
            (try simp only [Act.put, List.setIfInBounds_toArray, List.set_cons_zero, List.set_cons_succ])
            refine wpAnyH_done (by kernel_rfl) ?_ _
            have HBW := S1.2.2.2.2.2.2.2
            have y30 := (HBW.cell (p := ⟨b3, _, none⟩) l3).trans CC3.out.1
            have y31 := (HBW.cell (p := ⟨b3, _, none⟩) l3).trans CC3.out.2.1
            have y32 := (HBW.cell (p := ⟨b3, _, none⟩) l3).trans CC3.out.2.2.1
            have y33 := (HBW.cell (p := ⟨b3, _, none⟩) l3).trans CC3.out.2.2.2.1
            have y34 := (HBW.cell (p := ⟨b3, _, none⟩) l3).trans CC3.out.2.2.2.2.1
            have y35 := (HBW.cell (p := ⟨b3, _, none⟩) l3).trans CC3.out.2.2.2.2.2
            have y10 := (HBW.cell (p := ⟨b1, _, none⟩) l1).trans CC1.out.1
            have y14 := (HBW.cell (p := ⟨b1, _, none⟩) l1).trans CC1.out.2.2.2.2.1
            have y15 := (HBW.cell (p := ⟨b1, _, none⟩) l1).trans CC1.out.2.2.2.2.2
            have y20 := (HBW.cell (p := ⟨b2, _, none⟩) l2).trans CC2.out.1
            rw [o2] at y30
            rw [o3] at y34
            rw [o4] at y35
            rw [o1] at y20
            have hne := fun W => neq_use ⟨x.1.item, x.2.2.amt, x.1.out, x.1.back⟩ W
            have HBW2 := Lib.hid HBW
            clear HBW S1 o1 o2 o3 o4 hHeld CC1 CC2 CC3 HADD2 S0
            go_wp2
            go_quiet (fail)
            go_wp2
            exact ⟨⟨k + 1, by omega, by go_num, below_drewN (HLB.out.trans (HBW2.out.mono HLB.out.size)) _⟩, by simp [intOf]; omega⟩
          exact AllReadyH.nil
        exact AllReadyH.nil
      exact AllReadyH.nil
    · skip
      obtain rfl : k = N := by omega
      go_wp2
      go_loopw [201] (fun i ws => ∃ j : Nat, j ≤ NW ∧ i = .int .i64 j ∧ Below wr.heap.size wr ws) (fun i _ => NW - (intOf i).toNat)
      case atStart => exact ⟨0, Nat.zero_le _, rfl, Below.refl _ _⟩
      case round =>
        obtain ⟨j, hj, rfl, hb⟩ := hrel
        have HJB := Lib.hid hb
        have V1j := Lib.hid (V1_10.out.below hb)
        have V2j := Lib.hid (V2_10.out.below hb)
        have V3j := Lib.hid (V3_10.out.below hb)
        have HBj := Lib.hid (HB_10.out.trans (hb.mono HB_10.out.size))
        clear hb
        by_cases hjt : j < NW
        · obtain ⟨x, hx⟩ : ∃ x, lw[j]? = some x := ⟨lw[j]'(by omega), List.getElem?_eq_getElem (by omega)⟩
          obtain ⟨o1, o2, o3, o4, o5, o6, o7, o8⟩ := hlw x (List.mem_of_getElem? hx)
          have x1 : s.works[j]? = some x.1 := by rw [ht1, List.getElem?_map, hx]; rfl
          have x2 : t.works[j]? = some x.2.1 := by rw [ht2, List.getElem?_map, hx]; rfl
          have x3 : r.works[j]? = some x.2.2 := by rw [ht3, List.getElem?_map, hx]; rfl
          obtain ⟨b1, f1, rfl, l1, c1⟩ := WorksV.nth V1j.out x1
          have c10 := c1 0 _ rfl
          have c11 := c1 1 _ rfl
          simp only [Nat.add_zero] at c10
          clear c1
          obtain ⟨b2, f2, rfl, l2, c2⟩ := WorksV.nth V2j.out x2
          have c20 := c2 0 _ rfl
          have c21 := c2 1 _ rfl
          simp only [Nat.add_zero] at c20
          clear c2
          obtain ⟨b3, f3, rfl, l3, c3⟩ := WorksV.nth V3j.out x3
          have c30 := c3 0 _ rfl
          have c31 := c3 1 _ rfl
          simp only [Nat.add_zero] at c30
          clear c3
          clear hx x1 x2 x3
          obtain ⟨⟨m1, s1⟩, ⟨m2, s2⟩, ⟨m3, s3⟩⟩ := x
          simp only at o1 o2 o3 o4 o5 o6 o7 o8 c10 c11 c20 c21 c30 c31
          subst o1
          have hi0 : (0 : Int) ≤ (j : Int) := by omega
          have hi1 : (j : Int) < (NW : Int) := by omega
          have y1 : IntKind.i64.wrap (s1 + s2) = s1 + s2 := by rw [IntKind.wrap_i64]; omega
          have y2 : decide (s1 + s2 < s3) = false := by simp; omega
          have y3 : decide (s3 < max s1 s2) = false := by simp; omega
          go_wp2
          go_quiet (fail)
          go_wp2
          exact ⟨⟨j + 1, by omega, by go_num, below_drewN HJB.out _⟩, by simp [intOf]; omega⟩
        · obtain rfl : j = NW := by omega
          go_wp2
          go_ret
          exact ⟨rfl, HBj.out⟩

theorem useH_of {x : UseR × UseR × UseR} (h : UseOk x) : UseH x := by
  obtain ⟨h1, h2, h3, h4, h5, h6, h7, h8, h9⟩ := h
  refine ⟨h1, h2, h3, h4, h5.1.2.2, fun W hW => ?_⟩
  have f := h6.fits B120_sum h7
  have := radd_ok x.1.amt x.2.1.amt W h8 h9 (h5.1.1.trans h5.1.2.1.symm) f.1 f.2 hW
  rw [h5.1.1] at this
  rw [← h5.eq]
  exact this

/-- MachineSums returns true. -/
theorem MachineSums_any (v cv : Value) (l : List In) (c : List Int) (neg neg' : Bool) (n d n' d' : ByteArray) (w : World) (hv : CodeV w v l) (hc : IntsV w cv c) (hl : l.length ≤ 9223372036854775807) (hcl : c.length ≤ 9223372036854775807) (hT : Tab w) :
    Calls Tryz.prog 4 #[v, cv, .agg #[.bool neg, .string n, .string d], .agg #[.bool neg', .string n', .string d']] w (Ret w (.bool true)) := by
  obtain ⟨A, cap, e1, _⟩ := id hv
  obtain ⟨A', cap', e2, _⟩ := id hc
  subst e1 e2
  cases hfew : fewL l with
  | false => exact sums_few A A' cap cap' l c neg neg' n d n' d' w hv hc hl hcl hT hfew
  | true =>
    have h60 : l.length ≤ 60 := by
      unfold fewL at hfew
      simp at hfew
      exact hfew.2
    cases hr : (decide (n.size ≤ 40) && decide (d.size ≤ 40)) with
    | false => exact sums_ratio A A' cap cap' l c neg neg' n d n' d' w hv hc hl hcl hT hfew hr
    | true =>
      cases hr' : (decide (n'.size ≤ 40) && decide (d'.size ≤ 40)) with
      | false => exact sums_ratio2 A A' cap cap' l c neg neg' n d n' d' w hv hc hl hcl hT hfew hr hr'
      | true =>
        by_cases h12 : 12 < c.length
        · exact sums_long A A' cap cap' l c neg neg' n d n' d' w hv hc hl hcl hT hfew hr hr' h12
        by_cases h0 : (runE l c neg n d (l.length : Int)).1 = 0
        rotate_left
        · exact sums_err1 A A' cap cap' l c neg neg' n d n' d' w hv hc hl hcl hT hfew hr hr' (by omega) h60 _ h0 rfl
        by_cases h1 : (runE l c neg' n' d' (l.length : Int)).1 = 0
        rotate_left
        · exact sums_err2 A A' cap cap' l c neg neg' n d n' d' w hv hc hl hcl hT hfew hr hr' (by omega) h60 _ h1 h0 rfl
        have z1 : n.size ≤ 40 ∧ d.size ≤ 40 := by simpa using hr
        have z2 : n'.size ≤ 40 ∧ d'.size ≤ 40 := by simpa using hr'
        obtain ⟨p, q, hp, hq, pn, qn, rfl, rfl, i1, i2, i3, i4, fits, pair, hsum⟩ := sums_plain l c neg neg' n d n' d' (l.length : Int) hfew z1 z2 h0 h1
        have hadd : ∀ W, Tab W → Calls Tryz.prog 12 #[.agg #[.bool false, .string n, .string d], .agg #[.bool false, .string n', .string d']] W (Ret W (.tuple #[.agg #[.bool false, .string (bs (addR p q).n), .string (bs (addR p q).d)], .int .i64 0])) := fun W hW => by
          have h := radd_ok p q W hp hq (pn.trans qn.symm) fits.1 fits.2 hW
          rw [i1, i2, i3, i4]
          unfold ratV at h
          rw [pn, qn] at h
          exact h
        obtain ⟨a1, a2⟩ := runE_len l c false n d (l.length : Int)
        rcases hsum with h7 | ⟨h7, sim⟩
        · exact sums_limit A A' cap cap' l c n d n' d' _ _ w hv hc hl hcl hT hfew hr hr' (by omega) h60 _ _ _ _ (Nat.le_trans a1 h60) (Nat.le_trans a2 h60) (Prod.ext h0 rfl) (Prod.ext h1 rfl) pair.lead rfl pair.uses rfl pair.works hadd h7
        · obtain ⟨lu, u1, u2, u3, hlu⟩ := sim.uses
          obtain ⟨lw, w1, w2, w3, hlw⟩ := sim.works
          exact sums_good A A' cap cap' l c n d n' d' _ _ w hv hc hl hcl hT hfew hr hr' (by omega) h60 _ _ _ _ (Nat.le_trans a1 h60) (Nat.le_trans a2 h60) (Prod.ext h0 rfl) (Prod.ext h1 rfl) pair.lead rfl pair.uses rfl pair.works hadd _ lu (Prod.ext h7 rfl) sim.lead.2 (by rw [u3, u1]; simp) (by rw [w3, w1]; simp) u1 u2 u3 (by rw [u1]; simp) (fun x hx => useH_of (hlu x hx)) lw w1 w2 w3 (by rw [w1]; simp) hlw
end Go.Proofs.YtiohceaddojedaaGreatDoor
