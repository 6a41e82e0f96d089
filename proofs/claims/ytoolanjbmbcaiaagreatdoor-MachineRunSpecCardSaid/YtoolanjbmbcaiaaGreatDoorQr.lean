/- The specification of the machine's Run: the loop. -/
import Derived.Test.YtoolanjbmbcaiaaGreatDoorGr
namespace Go.Proofs.YtoolanjbmbcaiaaGreatDoor
open Go.RowKit Bf

structure Own (W : World) (B : Nat) (e : TypeId) (size : Nat) (v : Value) (n : Nat) (xs : List Value) : Prop where
  own : W.ownsRow B e size v n xs
theorem Own.below {W W' : World} {B n size : Nat} {e : TypeId} {v : Value} {xs : List Value} (h : Own W B e size v n xs) (hb : Below W.heap.size W W') : Own W' B e size v n xs :=
  ⟨owns_of h.own fun g hg => hb.block g (owns_lt h.own hg)⟩
section
variable {w W W' : World} {kA kB : Nat} {l : List In} {ch : List Int} {day : Int} {amt : Rt} {R : Int × Mst} {s s' : Mst} {g f' : Nat} {uv wv uv' wv' : Value} {x : In}
theorem SInv.zero (h : SInv w W kA kB l ch day amt R s g uv wv) (hf0 : s.fuel = 0) : R.1 = 170 := by
  obtain ⟨g', hg'⟩ : ∃ g', g = g' + 1 := ⟨g - 1, by have := h.gas; have := h.lt; omega⟩
  rw [← h.run, hg', runI, if_pos hf0]
theorem SInv.step (h : SInv w W kA kB l ch day amt R s g uv wv) (hf : s.fuel = f' + 1) (hx : l[s.next]? = some x) : ∃ g', g = g' + 1 ∧ R = match stepI ch day amt x { s with fuel := f', next := s.next + 1 } with | .go s' => runI l ch day amt g' s' | .stop e s' => (e, s') := by
  obtain ⟨g', hg'⟩ : ∃ g', g = g' + 1 := ⟨g - 1, by have := h.gas; have := h.lt; omega⟩
  refine ⟨g', hg', ?_⟩
  rw [← h.run, hg', runI, if_neg (by omega), hx]
  simp only
  rw [show s.fuel - 1 = f' from by omega]
  generalize stepI ch day amt x _ = o
  cases o <;> rfl
theorem runres_err {w W : World} {R : Int × Mst} {k : Int} (h : R.1 = k) (hk : k ≠ 0) (hb : Below w.heap.size w W) : RunRes w R (.returned (.tuple #[.slice none 0 0, .slice none 0 0, .int .i64 0, .int .i64 0, .int .i64 k])) W := ⟨hb, .inr ⟨by rw [h]; exact hk, by rw [h]⟩⟩
theorem SInv.stop {e : Int} (h : SInv w W kA kB l ch day amt R s g uv wv) (hf : s.fuel = f' + 1) (hx : l[s.next]? = some x) (hst : stepI ch day amt x { s with fuel := f', next := s.next + 1 } = .stop e s') : R = (e, s') := by
  obtain ⟨g', _, hR⟩ := h.step hf hx
  rw [hst] at hR
  exact hR
theorem SInv.go (h : SInv w W kA kB l ch day amt R s g uv wv) (hok : progOk l) (ha : amt.ok) (han : amt.neg = false) (hf : s.fuel = f' + 1) (hx : l[s.next]? = some x) (hst : stepI ch day amt x { s with fuel := f', next := s.next + 1 } = .go s')
    (ru : W'.ownsRow w.heap.size 58 6 uv' s'.uses.length (useC s'.uses)) (rk : W'.ownsRow w.heap.size 60 2 wv' s'.works.length (workC s'.works)) (ka : Blk W' kA (ratC amt) 25) (kb : Blk W' kB (ratC s'.bat) 25) (bel : Below w.heap.size w W') :
    ∃ g', SInv w W' kA kB l ch day amt R s' g' uv' wv' := by
  obtain ⟨g', hg', hR⟩ := h.step hf hx
  rw [hst] at hR
  obtain ⟨n1, n2, n3, n4, n5, n6, n7⟩ := step_next (s := { s with fuel := f', next := s.next + 1 }) hok hx rfl h.bat h.pos ha han hst
  have h1 := h.gas
  have h2 := h.lu
  have h3 := h.lw
  have h4 := h.fl
  simp only at n5 n6 n7
  exact ⟨g', hR.symm, by omega, n1, n3, n4, by omega, by omega, by omega, ru, rk, ka, kb, bel⟩
end

set_option maxRecDepth 100000 in
set_option maxHeartbeats 8000000 in
theorem run17_good (b off : Nat) (A' : Option Addr) (cap cap' nc fuel : Nat) (l : List In) (c : List Int) (amt : Rt) (w : World) (hcd : CodeAt w b off l) (hc : IntsV w (.slice A' nc cap') c) (hnc : c.length = nc) (hl : l.length ≤ 4096) (hcl : nc ≤ 4096) (hc0 : 0 < nc) (hok : progOk l) (hp : progE l = 0) (ha : amt.ok) (han : amt.neg = false) (hf : fuel < 9223372036854775808) (R : Int × Mst) (ch : List Int) (day : Int) (hch : ch = c.dropLast) (hday : day = c.getLast?.getD 0) (hR : runI l ch day amt l.length (begin0 fuel) = R) :
    Calls Tryz.prog 8 #[.slice (some ⟨b, off, none⟩) l.length cap, .slice A' nc cap', .agg #[.bool false, .string (bs amt.n), .string (bs amt.d)], .int .i64 (fuel : Int)] w (RunRes w R) := by
  have HC : Hid (CodeV w (.slice (some ⟨b, off, none⟩) l.length cap) l) := ⟨_, _, rfl, .inr ⟨b, off, rfl, hcd⟩⟩
  have HCD := Lib.hid hcd
  have HI := Lib.hid hc
  have HR := Lib.hid hR
  have hr : RatS false (bs amt.n) (bs amt.d) := by have := RatS.of ha; rwa [han] at this
  clear hcd hc hR
  go_enter Tryz.func8, Tryz.ntmps8
  have K : Hid (Blk (w.alloc (.cells #[.bool false, .string (bs amt.n), .string (bs amt.d)] 25)) (w.heap.size) [.bool false, .string (bs amt.n), .string (bs amt.d)] 25) := by
    have := Blk.new w [.bool false, .string (bs amt.n), .string (bs amt.d)] 25
    exact this
  go_wp2_with fail
  refine (check17_any (HC.out.below ((Below.refl _ _).alloc (Nat.le_refl _) (.cells #[.bool false, .string (bs amt.n), .string (bs amt.d)] 25))) hl).mono ?_
  rw [hp]
  rintro e w1 ⟨rfl, hb⟩
  have HB_1 := Lib.hid (((Below.refl w.heap.size w).alloc (Below.refl w.heap.size w).size (.cells #[.bool false, .string (bs amt.n), .string (bs amt.d)] 25)).trans (hb.mono ((Below.refl w.heap.size w).alloc (Below.refl w.heap.size w).size (.cells #[.bool false, .string (bs amt.n), .string (bs amt.d)] 25)).size))
  have C_1 := Lib.hid ((HC.out.below ((Below.refl _ _).alloc (Nat.le_refl _) (.cells #[.bool false, .string (bs amt.n), .string (bs amt.d)] 25))).below hb)
  have I_1 := Lib.hid ((HI.out.below ((Below.refl _ _).alloc (Nat.le_refl _) (.cells #[.bool false, .string (bs amt.n), .string (bs amt.d)] 25))).below hb)
  have K_1 := Lib.hid (K.out.below hb K.out.lt)
  clear hb
  obtain ⟨q0, _⟩ := K_1.out.at 0 _ rfl
  obtain ⟨q1, _⟩ := K_1.out.at 1 _ rfl
  obtain ⟨q2, _⟩ := K_1.out.at 2 _ rfl
  have hk := K_1.out.lt
  go_wp2_with fail
  refine (check07_any false (bs amt.n) (bs amt.d) _).mono ?_
  rw [rchk_ok hr]
  rintro e w2 ⟨rfl, hb⟩
  have HB_2 := Lib.hid (HB_1.out.trans (hb.mono HB_1.out.size))
  have C_2 := Lib.hid (C_1.out.below hb)
  have I_2 := Lib.hid (I_1.out.below hb)
  have K_2 := Lib.hid (K_1.out.below hb K_1.out.lt)
  clear hb
  clear q0 q1 q2 hk
  have t1 : ¬ (nc : Int) < 1 := by omega
  have t2 : ¬ (fuel : Int) < 0 := by omega
  obtain ⟨q0, _⟩ := K_2.out.at 0 _ rfl
  obtain ⟨q1, _⟩ := K_2.out.at 1 _ rfl
  obtain ⟨q2, _⟩ := K_2.out.at 2 _ rfl
  have hk := K_2.out.lt
  have U : Hid (Own (w2.alloc (.cells #[] 58)) (w2.heap.size) 58 6 (.slice (some ⟨w2.heap.size, 0, none⟩) 0 0) 0 []) := by
    have := Own.mk (own_none w2 58 6)
    exact this
  have V : Hid (Own ((w2.alloc (.cells #[] 58)).alloc (.cells #[] 60)) (w2.heap.size + 1) 60 2 (.slice (some ⟨w2.heap.size + 1, 0, none⟩) 0 0) 0 []) := by
    have := Own.mk (own_none (w2.alloc (.cells #[] 58)) 60 2)
    rwa [World.size_alloc] at this
  have B : Hid (Blk (((w2.alloc (.cells #[] 58)).alloc (.cells #[] 60)).alloc (.cells #[.bool false, .string ⟨#[]⟩, .string ⟨#[]⟩] 25)) (w2.heap.size + 1 + 1) [.bool false, .string ⟨#[]⟩, .string ⟨#[]⟩] 25) := by
    have := Blk.new ((w2.alloc (.cells #[] 58)).alloc (.cells #[] 60)) [.bool false, .string ⟨#[]⟩, .string ⟨#[]⟩] 25
    rwa [World.size_alloc, World.size_alloc] at this
  go_wp2_with fail
  refine (new07 _).mono ?_
  rintro e w3 ⟨rfl, hb⟩
  have HB_3 := Lib.hid ((((HB_2.out.alloc HB_2.out.size (.cells #[] 58)).alloc (HB_2.out.alloc HB_2.out.size (.cells #[] 58)).size (.cells #[] 60)).alloc ((HB_2.out.alloc HB_2.out.size (.cells #[] 58)).alloc (HB_2.out.alloc HB_2.out.size (.cells #[] 58)).size (.cells #[] 60)).size (.cells #[.bool false, .string ⟨#[]⟩, .string ⟨#[]⟩] 25)).trans (hb.mono (((HB_2.out.alloc HB_2.out.size (.cells #[] 58)).alloc (HB_2.out.alloc HB_2.out.size (.cells #[] 58)).size (.cells #[] 60)).alloc ((HB_2.out.alloc HB_2.out.size (.cells #[] 58)).alloc (HB_2.out.alloc HB_2.out.size (.cells #[] 58)).size (.cells #[] 60)).size (.cells #[.bool false, .string ⟨#[]⟩, .string ⟨#[]⟩] 25)).size))
  have C_3 := Lib.hid ((((C_2.out.below ((Below.refl _ _).alloc (Nat.le_refl _) (.cells #[] 58))).below ((Below.refl _ _).alloc (Nat.le_refl _) (.cells #[] 60))).below ((Below.refl _ _).alloc (Nat.le_refl _) (.cells #[.bool false, .string ⟨#[]⟩, .string ⟨#[]⟩] 25))).below hb)
  have I_3 := Lib.hid ((((I_2.out.below ((Below.refl _ _).alloc (Nat.le_refl _) (.cells #[] 58))).below ((Below.refl _ _).alloc (Nat.le_refl _) (.cells #[] 60))).below ((Below.refl _ _).alloc (Nat.le_refl _) (.cells #[.bool false, .string ⟨#[]⟩, .string ⟨#[]⟩] 25))).below hb)
  have K_3 := Lib.hid ((((K_2.out.alloc (.cells #[] 58)).alloc (.cells #[] 60)).alloc (.cells #[.bool false, .string ⟨#[]⟩, .string ⟨#[]⟩] 25)).below hb (((K_2.out.alloc (.cells #[] 58)).alloc (.cells #[] 60)).alloc (.cells #[.bool false, .string ⟨#[]⟩, .string ⟨#[]⟩] 25)).lt)
  have U_3 := Lib.hid (((U.out.below ((Below.refl _ _).alloc (Nat.le_refl _) (.cells #[] 60))).below ((Below.refl _ _).alloc (Nat.le_refl _) (.cells #[.bool false, .string ⟨#[]⟩, .string ⟨#[]⟩] 25))).below hb)
  have V_3 := Lib.hid ((V.out.below ((Below.refl _ _).alloc (Nat.le_refl _) (.cells #[.bool false, .string ⟨#[]⟩, .string ⟨#[]⟩] 25))).below hb)
  have B_3 := Lib.hid (B.out.below hb B.out.lt)
  clear hb
  clear q0 q1 q2 hk
  obtain ⟨q0, f0⟩ := B_3.out.at 0 _ rfl
  obtain ⟨q1, f1⟩ := B_3.out.at 1 _ rfl
  obtain ⟨q2, f2⟩ := B_3.out.at 2 _ rfl
  have hkb : w.heap.size ≤ w2.heap.size := by have := HB_3.out.size; have := HB_2.out.size; omega
  have hneA : w.heap.size ≠ w2.heap.size + 1 + 1 := by have := K_2.out.lt; omega
  have hsetb : ∀ k, k ≠ w2.heap.size + 1 + 1 → (((w3.setCell ⟨w2.heap.size + 1 + 1, 0, none⟩ (.bool false)).setCell ⟨w2.heap.size + 1 + 1, 1, none⟩ (.string (bs 0))).setCell ⟨w2.heap.size + 1 + 1, 2, none⟩ (.string (bs 1))).heap[k]? = w3.heap[k]? := fun k hk => ((Below.heap_setCell _ _ _ _ hk).trans (Below.heap_setCell _ _ _ _ hk)).trans (Below.heap_setCell _ _ _ _ hk)
  have start : Hid (SInv w (((w3.setCell ⟨w2.heap.size + 1 + 1, 0, none⟩ (.bool false)).setCell ⟨w2.heap.size + 1 + 1, 1, none⟩ (.string (bs 0))).setCell ⟨w2.heap.size + 1 + 1, 2, none⟩ (.string (bs 1))) w.heap.size (w2.heap.size + 1 + 1) l ch day amt R (begin0 fuel) l.length (.slice (some ⟨w2.heap.size, 0, none⟩) 0 0) (.slice (some ⟨w2.heap.size + 1, 0, none⟩) 0 0)) := by
    refine ⟨HR.out, by show l.length ≤ l.length + 0; omega, hok.1, show (⟨false, 0, 1⟩ : Rt).ok by decide, rfl, Nat.le_refl _, Nat.le_refl _, by show fuel ≤ _; omega, ?_, ?_, ?_, ?_, ?_⟩
    · refine owns_less (owns_of U_3.out.own fun g hg => ?_) hkb
      exact hsetb g (owns_ne_blk U_3.out.own B_3.out (by decide) g hg)
    · refine owns_less (B' := w2.heap.size + 1) (owns_of V_3.out.own fun g hg => ?_) (by omega)
      exact hsetb g (owns_ne_blk V_3.out.own B_3.out (by decide) g hg)
    · have := (hsetb _ hneA).trans K_3.out
      unfold Blk ratC
      rw [han]
      exact this
    · exact ((B_3.out.set 0 _).set 1 _).set 2 _
    · exact ((HB_3.out.setCell (p := ⟨w2.heap.size + 1 + 1, 0, none⟩) (by simp; omega) _).setCell (p := ⟨w2.heap.size + 1 + 1, 1, none⟩) (by simp; omega) _).setCell (p := ⟨w2.heap.size + 1 + 1, 2, none⟩) (by simp; omega) _
  clear hsetb
  clear K_3
  clear U_3
  clear V_3
  clear B_3
  go_wp2
  obtain ⟨kB, hkB⟩ : ∃ k, w2.heap.size + 1 + 1 = k := ⟨_, rfl⟩
  rw [hkB] at start ⊢
  have hkw : w.heap.size ≤ kB := by omega
  have hneK : w.heap.size ≠ kB := by omega
  clear hkB
  go_loopw [3, 13, 14, 15, 16, 18] (fun v3 v13 v14 v15 v16 v18 wr => ∃ s g A1 c1 A2 c2, v3 = .int .i64 (s.fuel : Int) ∧ v13 = .int .i64 0 ∧ v14 = .slice A1 s.uses.length c1 ∧ v15 = .slice A2 s.works.length c2 ∧ v16 = .int .i64 s.lead ∧ v18 = .int .i64 (s.next : Int) ∧ SInv w wr w.heap.size kB l ch day amt R s g (.slice A1 s.uses.length c1) (.slice A2 s.works.length c2)) (fun v3 _ _ _ _ _ _ => (intOf v3).toNat)
  case atStart => exact ⟨begin0 fuel, _, _, _, _, _, rfl, rfl, rfl, rfl, rfl, rfl, start.out⟩
  case round =>
    obtain ⟨s, g, A1, c1, A2, c2, rfl, rfl, rfl, rfl, rfl, rfl, hI⟩ := hrel
    have HS := Lib.hid hI
    have hnl := hI.lt
    have hfl := hI.fl
    have HBW := Lib.hid hI.bel
    obtain ⟨a0, _⟩ := hI.ka.at 0 _ rfl
    obtain ⟨a1, _⟩ := hI.ka.at 1 _ rfl
    obtain ⟨a2, _⟩ := hI.ka.at 2 _ rfl
    obtain ⟨b0, g0⟩ := hI.kb.at 0 _ rfl
    obtain ⟨b1, g1⟩ := hI.kb.at 1 _ rfl
    obtain ⟨b2, g2⟩ := hI.kb.at 2 _ rfl
    have hkal := hI.ka.lt
    have hkbl := hI.kb.lt
    have hneX : kB ≠ wr.heap.size := by omega
    clear hI start q0 q1 q2 f0 f1 f2
    by_cases hf0 : s.fuel = 0
    · have HZ := Lib.hid (HS.out.zero hf0)
      go_wp2
      exact bodyPost_ret (v := .tuple #[.slice none 0 0, .slice none 0 0, .int .i64 0, .int .i64 0, .int .i64 170]) (by simp [results, Tryz.results8, go_sem]) rfl (runres_err HZ.out (by decide) HBW.out)
    obtain ⟨f', hf'⟩ : ∃ f', s.fuel = f' + 1 := ⟨s.fuel - 1, by omega⟩
    have HF := Lib.hid hf'
    have tf : (0 : Int) < (s.fuel : Int) := by omega
    have e3 : IntKind.i64.wrap ((s.fuel : Int) - 1) = (f' : Int) := by rw [hf', IntKind.wrap_i64]; omega
    have e18 : IntKind.i64.wrap ((s.next : Int) + 1) = (s.next : Int) + 1 := by rw [IntKind.wrap_i64]; omega
    obtain ⟨x, hx⟩ : ∃ x, l[s.next]? = some x := ⟨l[s.next]'hnl, List.getElem?_eq_getElem hnl⟩
    have hbl := HCD.out.1
    obtain ⟨d0, d1, d2, d3, d4, d5⟩ := (HCD.out.below HBW.out HCD.out.1).sp hx
    have HX := Lib.hid hx
    have hi0 : (0 : Int) ≤ (s.next : Int) := by omega
    have hi1 : (s.next : Int) < (l.length : Int) := by omega
    have hvx := hok.2.2.1 s.next x hx
    have ho := vld_op hvx
    have HVX := Lib.hid hvx
    clear hx hf' hf0 hvx
    obtain ⟨op, XA, XB, xneg, xn, xd⟩ := x
    simp only at d0 d1 d2 d3 d4 d5 ho
    have h8 : op = 1 ∨ op = 2 ∨ op = 3 ∨ op = 4 ∨ op = 5 ∨ op = 6 ∨ op = 7 ∨ op = 8 := by omega
    clear ho
    rcases h8 with rfl | rfl | rfl | rfl | rfl | rfl | rfl | rfl
    · have hA1 : -2 ≤ XA := by have := HVX.out; simp [vldB, btw] at this; omega
      have hb1 := (Below.refl wr.heap.size wr).alloc (Nat.le_refl _) (.cells #[.int .i64 1, .int .i64 XA, .int .i64 XB, .bool xneg, .string xn, .string xd] 40)
      have HH := Lib.hid (holds17_any ⟨1, XA, XB, xneg, xn, xd⟩ A' nc cap' c (wr.alloc (.cells #[.int .i64 1, .int .i64 XA, .int .i64 XB, .bool xneg, .string xn, .string xd] 40)) ((HI.out.below HBW.out).below hb1) hnc hc0 hcl hA1)
      rw [← hch, ← hday] at HH
      have HST : Hid (stepI ch day amt ⟨1, XA, XB, xneg, xn, xd⟩ { s with fuel := f', next := s.next + 1 } = .go { s with fuel := f', next := if holdsI ch day ⟨1, XA, XB, xneg, xn, xd⟩ then s.next + 1 + 1 else s.next + 1 }) := by simp [Hid, stepI]
      have HU1 := Lib.hid (Own.mk (owns_of HS.out.ru fun g hg => hb1.block g (owns_lt HS.out.ru hg)))
      have HV1 := Lib.hid (Own.mk (owns_of HS.out.rk fun g hg => hb1.block g (owns_lt HS.out.rk hg)))
      have HKA := Lib.hid (HS.out.ka.below hb1 hkal)
      have HKB := Lib.hid (HS.out.kb.below hb1 hkbl)
      have HB1 := Lib.hid (HBW.out.trans (hb1.mono HBW.out.size))
      unfold inV at HH
      clear hb1
      go_wp2_with fail
      refine HH.out.mono ?_
      rintro e w6 ⟨rfl, hb⟩
      have hka1 := HKA.out.lt
      have hkb1 := HKB.out.lt
      have HGO : Hid (∃ g', SInv w w6 w.heap.size kB l ch day amt R { s with fuel := f', next := if holdsI ch day ⟨1, XA, XB, xneg, xn, xd⟩ then s.next + 1 + 1 else s.next + 1 } g' _ _) := HS.out.go hok ha han HF.out HX.out HST.out (HU1.out.below hb).own (HV1.out.below hb).own (HKA.out.below hb hka1) (HKB.out.below hb hkb1) (HB1.out.trans (hb.mono HB1.out.size))
      clear hb HST HU1 HV1 HKA HKB HB1 HH hka1 hkb1
      have e19 : IntKind.i64.wrap ((s.next : Int) + 1 + 1) = (s.next : Int) + 1 + 1 := by rw [IntKind.wrap_i64]; omega
      cases hh : holdsI ch day ⟨1, XA, XB, xneg, xn, xd⟩
      · have HGO2 : Hid (∃ g', SInv w w6 w.heap.size kB l ch day amt R { s with fuel := f', next := s.next + 1 } g' (.slice A1 s.uses.length c1) (.slice A2 s.works.length c2)) := by
          have := HGO.out
          rw [hh] at this
          exact this
        clear HGO
        have HHH := Lib.hid hh
        clear HHH
        go_wp2
        obtain ⟨g', hg'⟩ := HGO2.out
        exact ⟨⟨{ s with fuel := f', next := s.next + 1 }, g', _, _, _, _, rfl, rfl, rfl, rfl, rfl, by go_num, hg'⟩, by have := HF.out; simp [intOf]; omega⟩
      · have HGO2 : Hid (∃ g', SInv w w6 w.heap.size kB l ch day amt R { s with fuel := f', next := s.next + 1 + 1 } g' (.slice A1 s.uses.length c1) (.slice A2 s.works.length c2)) := by
          have := HGO.out
          rw [hh] at this
          exact this
        clear HGO
        have HHH := Lib.hid hh
        clear HHH
        go_wp2
        obtain ⟨g', hg'⟩ := HGO2.out
        exact ⟨⟨{ s with fuel := f', next := s.next + 1 + 1 }, g', _, _, _, _, rfl, rfl, rfl, rfl, rfl, by go_num, hg'⟩, by have := HF.out; simp [intOf]; omega⟩
    · have hA2 : 0 ≤ XA ∧ XA < (l.length : Int) - 1 - (s.next : Int) := by have := HVX.out; simp [vldB] at this; exact this
      obtain ⟨j, rfl⟩ : ∃ j : Nat, XA = (j : Int) := ⟨XA.toNat, by omega⟩
      have e19 : IntKind.i64.wrap ((s.next : Int) + 1 + (j : Int)) = (s.next : Int) + 1 + (j : Int) := by rw [IntKind.wrap_i64]; omega
      have hb1 := (Below.refl wr.heap.size wr).alloc (Nat.le_refl _) (.cells #[.int .i64 2, .int .i64 (j : Int), .int .i64 XB, .bool xneg, .string xn, .string xd] 40)
      have HGO : Hid (∃ g', SInv w _ w.heap.size kB l ch day amt R { s with fuel := f', next := s.next + 1 + j } g' _ _) := HS.out.go hok ha han HF.out HX.out (by simp [stepI]) (owns_of HS.out.ru fun g hg => hb1.block g (owns_lt HS.out.ru hg)) (owns_of HS.out.rk fun g hg => hb1.block g (owns_lt HS.out.rk hg)) (HS.out.ka.below hb1 hkal) (HS.out.kb.below hb1 hkbl) (HBW.out.trans (hb1.mono HBW.out.size))
      clear hb1
      go_wp2
      obtain ⟨g', hg'⟩ := HGO.out
      exact ⟨⟨{ s with fuel := f', next := s.next + 1 + j }, g', _, _, _, _, rfl, rfl, rfl, rfl, rfl, by go_num, hg'⟩, by have := HF.out; simp [intOf]; omega⟩
    · have hA : alz xneg xn xd = true ∧ xn.toList.isEmpty = false := by have := HVX.out; simp [vldB] at this; exact ⟨this.1.1.1, by simpa using this.1.1.2⟩
      obtain ⟨r, hr3, hrn, rfl, rfl, rfl, hre⟩ := vld_rat hA.1
      have h0 : r.n ≠ 0 := fun e => by have := hA.2; rw [bs_isEmpty, e] at this; simp at this
      have est : stepI ch day amt ⟨3, XA, XB, false, bs r.n, bs r.d⟩ { s with fuel := f', next := s.next + 1 } = match divR amt ⟨false, bv (bs r.n), bv (bs r.d)⟩ with | none => Out.stop 2 { s with fuel := f', next := s.next + 1 } | some q => .go { s with fuel := f', next := s.next + 1, bat := q, lead := XB } := rfl
      rw [← hre] at est
      have HST := Lib.hid est
      have HD := Lib.hid (fun W => div07_any amt r W ha hr3 h0)
      unfold ratV at HD
      rw [han, hrn] at HD
      have hb1 := (Below.refl wr.heap.size wr).alloc (Nat.le_refl _) (.cells #[.int .i64 3, .int .i64 XA, .int .i64 XB, .bool false, .string (bs r.n), .string (bs r.d)] 40)
      have HU1 := Lib.hid (Own.mk (owns_of HS.out.ru fun g hg => hb1.block g (owns_lt HS.out.ru hg)))
      have HV1 := Lib.hid (Own.mk (owns_of HS.out.rk fun g hg => hb1.block g (owns_lt HS.out.rk hg)))
      have HKA := Lib.hid (HS.out.ka.below hb1 hkal)
      have HKB := Lib.hid (HS.out.kb.below hb1 hkbl)
      have HKX := Lib.hid (Blk.new wr [.int .i64 3, .int .i64 XA, .int .i64 XB, .bool false, .string (bs r.n), .string (bs r.d)] 40)
      have HB1 := Lib.hid (HBW.out.trans (hb1.mono HBW.out.size))
      clear hb1
      clear est hre hA h0 hr3
      cases hq : divR amt r
      · rw [hq] at HST HD
        have HR3 := Lib.hid (HS.out.stop HF.out HX.out HST.out)
        clear hq HST
        simp only [calcV] at HD
        go_wp2_with fail
        refine (HD.out _).mono ?_
        rintro e w6 ⟨rfl, hb⟩
        have HU6 := Lib.hid (HU1.out.below hb)
        have HV6 := Lib.hid (HV1.out.below hb)
        have HKA6 := Lib.hid (HKA.out.below hb HKA.out.lt)
        have HKB6 := Lib.hid (HKB.out.below hb HKB.out.lt)
        have HKX6 := Lib.hid (HKX.out.below hb HKX.out.lt)
        have HB6 := Lib.hid (HB1.out.trans (hb.mono HB1.out.size))
        have hneA2 : w.heap.size ≠ kB := hneK
        clear hb HU1 HV1 HKA HKB HKX HB1 a0 a1 a2 b0 b1 b2 g0 g1 g2 hkal hkbl d0 d1 d2 d3 d4 d5
        obtain ⟨y0, _⟩ := HKX6.out.at 0 _ rfl
        obtain ⟨y1, _⟩ := HKX6.out.at 1 _ rfl
        obtain ⟨y2, _⟩ := HKX6.out.at 2 _ rfl
        obtain ⟨y3, _⟩ := HKX6.out.at 3 _ rfl
        obtain ⟨y4, _⟩ := HKX6.out.at 4 _ rfl
        obtain ⟨y5, _⟩ := HKX6.out.at 5 _ rfl
        obtain ⟨b0, g0⟩ := HKB6.out.at 0 _ rfl
        obtain ⟨b1, g1⟩ := HKB6.out.at 1 _ rfl
        obtain ⟨b2, g2⟩ := HKB6.out.at 2 _ rfl
        have hkbl := HKB6.out.lt
        have hkxl := HKX6.out.lt
        have hkx := hneX
        go_wp2
        refine bodyPost_ret (v := .tuple #[.slice none 0 0, .slice none 0 0, .int .i64 0, .int .i64 0, .int .i64 2]) (by simp [results, Tryz.results8, go_sem]) rfl (runres_err (by rw [HR3.out]) (by decide) ?_)
        exact ((HB6.out.setCell (p := ⟨kB, 0, none⟩) hkw _).setCell (p := ⟨kB, 1, none⟩) hkw _).setCell (p := ⟨kB, 2, none⟩) hkw _
      · rename_i q
        rw [hq] at HST HD
        clear hq
        simp only [calcV] at HD
        go_wp2_with fail
        refine (HD.out _).mono ?_
        rintro e w6 ⟨rfl, hb⟩
        have HU6 := Lib.hid (HU1.out.below hb)
        have HV6 := Lib.hid (HV1.out.below hb)
        have HKA6 := Lib.hid (HKA.out.below hb HKA.out.lt)
        have HKB6 := Lib.hid (HKB.out.below hb HKB.out.lt)
        have HKX6 := Lib.hid (HKX.out.below hb HKX.out.lt)
        have HB6 := Lib.hid (HB1.out.trans (hb.mono HB1.out.size))
        have hneA2 : w.heap.size ≠ kB := hneK
        clear hb HU1 HV1 HKA HKB HKX HB1 a0 a1 a2 b0 b1 b2 g0 g1 g2 hkal hkbl d0 d1 d2 d3 d4 d5
        obtain ⟨y0, _⟩ := HKX6.out.at 0 _ rfl
        obtain ⟨y1, _⟩ := HKX6.out.at 1 _ rfl
        obtain ⟨y2, _⟩ := HKX6.out.at 2 _ rfl
        obtain ⟨y3, _⟩ := HKX6.out.at 3 _ rfl
        obtain ⟨y4, _⟩ := HKX6.out.at 4 _ rfl
        obtain ⟨y5, _⟩ := HKX6.out.at 5 _ rfl
        obtain ⟨b0, g0⟩ := HKB6.out.at 0 _ rfl
        obtain ⟨b1, g1⟩ := HKB6.out.at 1 _ rfl
        obtain ⟨b2, g2⟩ := HKB6.out.at 2 _ rfl
        have hkbl := HKB6.out.lt
        have hkxl := HKX6.out.lt
        have hkx := hneX
        have hset : ∀ k, k ≠ kB → (((w6.setCell ⟨kB, 0, none⟩ (.bool q.neg)).setCell ⟨kB, 1, none⟩ (.string (bs q.n))).setCell ⟨kB, 2, none⟩ (.string (bs q.d))).heap[k]? = w6.heap[k]? := fun k hk => ((Below.heap_setCell _ _ _ _ hk).trans (Below.heap_setCell _ _ _ _ hk)).trans (Below.heap_setCell _ _ _ _ hk)
        have HGO : Hid (∃ g', SInv w (((w6.setCell ⟨kB, 0, none⟩ (.bool q.neg)).setCell ⟨kB, 1, none⟩ (.string (bs q.n))).setCell ⟨kB, 2, none⟩ (.string (bs q.d))) w.heap.size kB l ch day amt R { s with fuel := f', next := s.next + 1, bat := q, lead := XB } g' (.slice A1 s.uses.length c1) (.slice A2 s.works.length c2)) := HS.out.go hok ha han HF.out HX.out HST.out (owns_of HU6.out.own fun g hg => hset g (owns_ne_blk HU6.out.own HKB6.out (by decide) g hg)) (owns_of HV6.out.own fun g hg => hset g (owns_ne_blk HV6.out.own HKB6.out (by decide) g hg)) ((hset _ hneA2).trans HKA6.out) (((HKB6.out.set 0 _).set 1 _).set 2 _) (((HB6.out.setCell (p := ⟨kB, 0, none⟩) hkw _).setCell (p := ⟨kB, 1, none⟩) hkw _).setCell (p := ⟨kB, 2, none⟩) hkw _)
        clear hset
        go_wp2
        obtain ⟨g', hg'⟩ := HGO.out
        exact ⟨⟨{ s with fuel := f', next := s.next + 1, bat := q, lead := XB }, g', _, _, _, _, rfl, rfl, rfl, rfl, rfl, by go_num, hg'⟩, by have := HF.out; simp [intOf]; omega⟩
    · have hA : alz xneg xn xd = true := by have := HVX.out; simp [vldB] at this; exact this.1.1
      obtain ⟨r, hr3, hrn, rfl, rfl, rfl, hre⟩ := vld_rat hA
      have est : stepI ch day amt ⟨4, XA, XB, false, bs r.n, bs r.d⟩ { s with fuel := f', next := s.next + 1 } = match mulR ⟨false, bv (bs r.n), bv (bs r.d)⟩ s.bat with | none => Out.stop 2 { s with fuel := f', next := s.next + 1 } | some q => .go { s with fuel := f', next := s.next + 1, uses := s.uses ++ [(⟨XA, q, false, (XB == 1)⟩ : UseR)] } := rfl
      rw [← hre] at est
      have HST := Lib.hid est
      have HD := Lib.hid (fun W => mul07_any r s.bat W hr3 HS.out.bat)
      unfold ratV at HD
      rw [hrn] at HD
      have hb1 := (Below.refl wr.heap.size wr).alloc (Nat.le_refl _) (.cells #[.int .i64 4, .int .i64 XA, .int .i64 XB, .bool false, .string (bs r.n), .string (bs r.d)] 40)
      have HU1 := Lib.hid (Own.mk (owns_of HS.out.ru fun g hg => hb1.block g (owns_lt HS.out.ru hg)))
      have HV1 := Lib.hid (Own.mk (owns_of HS.out.rk fun g hg => hb1.block g (owns_lt HS.out.rk hg)))
      have HKA := Lib.hid (HS.out.ka.below hb1 hkal)
      have HKB := Lib.hid (HS.out.kb.below hb1 hkbl)
      have HKX := Lib.hid (Blk.new wr [.int .i64 4, .int .i64 XA, .int .i64 XB, .bool false, .string (bs r.n), .string (bs r.d)] 40)
      have HB1 := Lib.hid (HBW.out.trans (hb1.mono HBW.out.size))
      clear hb1
      clear est hre hA hr3
      obtain ⟨j0, hj0, hy0, hy1, hy2⟩ := info_parts use_info
      have hlu := HS.out.lu
      cases hq : mulR r s.bat
      · skip
        rw [hq] at HST HD
        have HR3 := Lib.hid (HS.out.stop HF.out HX.out HST.out)
        clear hq HST
        simp only [calcV] at HD
        go_wp2_with fail
        refine (HD.out _).mono ?_
        rintro e w6 ⟨rfl, hb⟩
        have HU6 := Lib.hid (HU1.out.below hb)
        have HV6 := Lib.hid (HV1.out.below hb)
        have HKA6 := Lib.hid (HKA.out.below hb HKA.out.lt)
        have HKB6 := Lib.hid (HKB.out.below hb HKB.out.lt)
        have HKX6 := Lib.hid (HKX.out.below hb HKX.out.lt)
        have HB6 := Lib.hid (HB1.out.trans (hb.mono HB1.out.size))
        have hneA2 : w.heap.size ≠ kB := hneK
        clear hb HU1 HV1 HKA HKB HKX HB1 a0 a1 a2 b0 b1 b2 g0 g1 g2 hkal hkbl d0 d1 d2 d3 d4 d5
        obtain ⟨y0, _⟩ := HKX6.out.at 0 _ rfl
        obtain ⟨y1, _⟩ := HKX6.out.at 1 _ rfl
        obtain ⟨y2, _⟩ := HKX6.out.at 2 _ rfl
        obtain ⟨y3, _⟩ := HKX6.out.at 3 _ rfl
        obtain ⟨y4, _⟩ := HKX6.out.at 4 _ rfl
        obtain ⟨y5, _⟩ := HKX6.out.at 5 _ rfl
        obtain ⟨b0, g0⟩ := HKB6.out.at 0 _ rfl
        obtain ⟨b1, g1⟩ := HKB6.out.at 1 _ rfl
        obtain ⟨b2, g2⟩ := HKB6.out.at 2 _ rfl
        have hkbl := HKB6.out.lt
        have hkxl := HKX6.out.lt
        have hkx := hneX
        have hbr := (Below.refl w6.heap.size w6).alloc (Nat.le_refl _) (.cells #[.bool false, .string ⟨#[]⟩, .string ⟨#[]⟩] 25)
        have HU8 := Lib.hid (HU6.out.below hbr)
        have HV8 := Lib.hid (HV6.out.below hbr)
        have HB8 := Lib.hid (HB6.out.trans (hbr.mono HB6.out.size))
        have HKA8 := Lib.hid (HKA6.out.alloc (.cells #[.bool false, .string ⟨#[]⟩, .string ⟨#[]⟩] 25))
        have HKB8 := Lib.hid (HKB6.out.alloc (.cells #[.bool false, .string ⟨#[]⟩, .string ⟨#[]⟩] 25))
        clear hbr
        go_wp2_with (at_builtin; refine wpList_append_any _ rfl _ _ _ rfl w.heap.size 58 j0 _ 6 56 Tryz.underlying29 hj0 hy0 hy1 hy2 rfl (by omega) (.slice A1 s.uses.length c1) s.uses.length (useC s.uses) rfl ?_ (w6.heap.size + 1 + 1) (some ⟨w6.heap.size + 1, 0, none⟩) 1 1 [.int .i64 XA, .bool false, .string ⟨#[]⟩, .string ⟨#[]⟩, .bool false, .bool (XB == 1)] rfl ?_ ?_ ?_ ?_ ?_ ?_)
        · exact (HU8.out.below ((Below.refl _ _).alloc (Nat.le_refl _) _)).own
        · have := Blk.new (w6.alloc (.cells #[.bool false, .string ⟨#[]⟩, .string ⟨#[]⟩] 25)) [.int .i64 XA, .bool false, .string ⟨#[]⟩, .string ⟨#[]⟩, .bool false, .bool (XB == 1)] 58
          rw [World.size_alloc] at this
          exact reads_new this
        · intro u hu; simp at hu; rcases hu with rfl | rfl | rfl | rfl | rfl | rfl <;> rfl
        · simp only [maxLen]; omega
        · omega
        · have := HB6.out.size; simp; omega
        intro v7 w7 hown hg hat
        obtain ⟨A7, c7, rfl⟩ := owns_slice hown
        have HB7 := Lib.hid (app_below2 HB8.out hg (own_base HU6.out.own))
        clear hown hg hat
        go_wp2
        exact bodyPost_ret (v := .tuple #[.slice none 0 0, .slice none 0 0, .int .i64 0, .int .i64 0, .int .i64 2]) (by simp [results, Tryz.results8, go_sem]) rfl (runres_err (by rw [HR3.out]) (by decide) HB7.out)
      · rename_i q
        rw [hq] at HST HD
        clear hq
        simp only [calcV] at HD
        go_wp2_with fail
        refine (HD.out _).mono ?_
        rintro e w6 ⟨rfl, hb⟩
        have HU6 := Lib.hid (HU1.out.below hb)
        have HV6 := Lib.hid (HV1.out.below hb)
        have HKA6 := Lib.hid (HKA.out.below hb HKA.out.lt)
        have HKB6 := Lib.hid (HKB.out.below hb HKB.out.lt)
        have HKX6 := Lib.hid (HKX.out.below hb HKX.out.lt)
        have HB6 := Lib.hid (HB1.out.trans (hb.mono HB1.out.size))
        have hneA2 : w.heap.size ≠ kB := hneK
        clear hb HU1 HV1 HKA HKB HKX HB1 a0 a1 a2 b0 b1 b2 g0 g1 g2 hkal hkbl d0 d1 d2 d3 d4 d5
        obtain ⟨y0, _⟩ := HKX6.out.at 0 _ rfl
        obtain ⟨y1, _⟩ := HKX6.out.at 1 _ rfl
        obtain ⟨y2, _⟩ := HKX6.out.at 2 _ rfl
        obtain ⟨y3, _⟩ := HKX6.out.at 3 _ rfl
        obtain ⟨y4, _⟩ := HKX6.out.at 4 _ rfl
        obtain ⟨y5, _⟩ := HKX6.out.at 5 _ rfl
        obtain ⟨b0, g0⟩ := HKB6.out.at 0 _ rfl
        obtain ⟨b1, g1⟩ := HKB6.out.at 1 _ rfl
        obtain ⟨b2, g2⟩ := HKB6.out.at 2 _ rfl
        have hkbl := HKB6.out.lt
        have hkxl := HKX6.out.lt
        have hkx := hneX
        have hbr := (Below.refl w6.heap.size w6).alloc (Nat.le_refl _) (.cells #[.bool q.neg, .string (bs q.n), .string (bs q.d)] 25)
        have HU8 := Lib.hid (HU6.out.below hbr)
        have HV8 := Lib.hid (HV6.out.below hbr)
        have HB8 := Lib.hid (HB6.out.trans (hbr.mono HB6.out.size))
        have HKA8 := Lib.hid (HKA6.out.alloc (.cells #[.bool q.neg, .string (bs q.n), .string (bs q.d)] 25))
        have HKB8 := Lib.hid (HKB6.out.alloc (.cells #[.bool q.neg, .string (bs q.n), .string (bs q.d)] 25))
        clear hbr
        go_wp2_with (at_builtin; refine wpList_append_any _ rfl _ _ _ rfl w.heap.size 58 j0 _ 6 56 Tryz.underlying29 hj0 hy0 hy1 hy2 rfl (by omega) (.slice A1 s.uses.length c1) s.uses.length (useC s.uses) rfl ?_ (w6.heap.size + 1 + 1) (some ⟨w6.heap.size + 1, 0, none⟩) 1 1 [.int .i64 XA, .bool q.neg, .string (bs q.n), .string (bs q.d), .bool false, .bool (XB == 1)] rfl ?_ ?_ ?_ ?_ ?_ ?_)
        · exact (HU8.out.below ((Below.refl _ _).alloc (Nat.le_refl _) _)).own
        · have := Blk.new (w6.alloc (.cells #[.bool q.neg, .string (bs q.n), .string (bs q.d)] 25)) [.int .i64 XA, .bool q.neg, .string (bs q.n), .string (bs q.d), .bool false, .bool (XB == 1)] 58
          rw [World.size_alloc] at this
          exact reads_new this
        · intro u hu; simp at hu; rcases hu with rfl | rfl | rfl | rfl | rfl | rfl <;> rfl
        · simp only [maxLen]; omega
        · omega
        · have := HB6.out.size; simp; omega
        intro v7 w7 hown hg hat
        obtain ⟨A7, c7, rfl⟩ := owns_slice hown
        have HB7 := Lib.hid (app_below2 HB8.out hg (own_base HU6.out.own))
        have HWa := Lib.hid (HU8.out.below ((Below.refl (w6.alloc (.cells #[.bool q.neg, .string (bs q.n), .string (bs q.d)] 25)).heap.size (w6.alloc (.cells #[.bool q.neg, .string (bs q.n), .string (bs q.d)] 25))).alloc (Nat.le_refl _) (.cells #[.int .i64 XA, .bool q.neg, .string (bs q.n), .string (bs q.d), .bool false, .bool (XB == 1)] 58)))
        have HOa := Lib.hid (HV8.out.below ((Below.refl (w6.alloc (.cells #[.bool q.neg, .string (bs q.n), .string (bs q.d)] 25)).heap.size (w6.alloc (.cells #[.bool q.neg, .string (bs q.n), .string (bs q.d)] 25))).alloc (Nat.le_refl _) (.cells #[.int .i64 XA, .bool q.neg, .string (bs q.n), .string (bs q.d), .bool false, .bool (XB == 1)] 58)))
        have HOT := Lib.hid (owns_of HOa.out.own fun g hg1 => hg.block g (owns_lt HOa.out.own hg1) (fun e => owns_ne_owns HOa.out.own HWa.out.own (by decide) g hg1 e.symm))
        have HKA7 := Lib.hid ((HKA8.out.alloc (.cells #[.int .i64 XA, .bool q.neg, .string (bs q.n), .string (bs q.d), .bool false, .bool (XB == 1)] 58)).grown hg (fun e => owns_ne_blk HWa.out.own (HKA8.out.alloc (.cells #[.int .i64 XA, .bool q.neg, .string (bs q.n), .string (bs q.d), .bool false, .bool (XB == 1)] 58)) (by decide) _ e.symm rfl))
        have HKB7 := Lib.hid ((HKB8.out.alloc (.cells #[.int .i64 XA, .bool q.neg, .string (bs q.n), .string (bs q.d), .bool false, .bool (XB == 1)] 58)).grown hg (fun e => owns_ne_blk HWa.out.own (HKB8.out.alloc (.cells #[.int .i64 XA, .bool q.neg, .string (bs q.n), .string (bs q.d), .bool false, .bool (XB == 1)] 58)) (by decide) _ e.symm rfl))
        have HRU : Hid (w7.ownsRow w.heap.size 58 6 (.slice A7 (s.uses.length + 1) c7) (s.uses ++ [(⟨XA, q, false, (XB == 1)⟩ : UseR)]).length (useC (s.uses ++ [(⟨XA, q, false, (XB == 1)⟩ : UseR)]))) := by
          show World.ownsRow _ _ _ _ _ _ _
          rw [useC_snoc, List.length_append]
          exact hown
        have HGO : Hid (∃ g', SInv w w7 w.heap.size kB l ch day amt R { s with fuel := f', next := s.next + 1, uses := s.uses ++ [(⟨XA, q, false, (XB == 1)⟩ : UseR)] } g' (.slice A7 (s.uses.length + 1) c7) (.slice A2 s.works.length c2)) := HS.out.go hok ha han HF.out HX.out HST.out HRU.out HOT.out HKA7.out HKB7.out HB7.out
        clear hown hg hat HOT HRU HKA7 HKB7 HB7 HST HWa HOa
        go_wp2
        obtain ⟨g', hg'⟩ := HGO.out
        refine ⟨⟨{ s with fuel := f', next := s.next + 1, uses := s.uses ++ [(⟨XA, q, false, (XB == 1)⟩ : UseR)] }, g', A7, c7, _, _, rfl, rfl, by simp, rfl, rfl, by go_num, ?_⟩, by have := HF.out; simp [intOf]; omega⟩
        simp only [List.length_append, List.length_cons, List.length_nil]
        exact hg'
    · have hA : alz xneg xn xd = true ∧ XB = 0 := by have := HVX.out; simp [vldB] at this; exact ⟨this.1.1, this.2⟩
      obtain ⟨hA, rfl⟩ := hA
      obtain ⟨r, hr3, hrn, rfl, rfl, rfl, hre⟩ := vld_rat hA
      have est : stepI ch day amt ⟨5, XA, 0, false, bs r.n, bs r.d⟩ { s with fuel := f', next := s.next + 1 } = match mulR ⟨false, bv (bs r.n), bv (bs r.d)⟩ s.bat with | none => Out.stop 2 { s with fuel := f', next := s.next + 1 } | some q => .go { s with fuel := f', next := s.next + 1, uses := s.uses ++ [(⟨XA, q, true, false⟩ : UseR)] } := rfl
      rw [← hre] at est
      have HST := Lib.hid est
      have HD := Lib.hid (fun W => mul07_any r s.bat W hr3 HS.out.bat)
      unfold ratV at HD
      rw [hrn] at HD
      have hb1 := (Below.refl wr.heap.size wr).alloc (Nat.le_refl _) (.cells #[.int .i64 5, .int .i64 XA, .int .i64 0, .bool false, .string (bs r.n), .string (bs r.d)] 40)
      have HU1 := Lib.hid (Own.mk (owns_of HS.out.ru fun g hg => hb1.block g (owns_lt HS.out.ru hg)))
      have HV1 := Lib.hid (Own.mk (owns_of HS.out.rk fun g hg => hb1.block g (owns_lt HS.out.rk hg)))
      have HKA := Lib.hid (HS.out.ka.below hb1 hkal)
      have HKB := Lib.hid (HS.out.kb.below hb1 hkbl)
      have HKX := Lib.hid (Blk.new wr [.int .i64 5, .int .i64 XA, .int .i64 0, .bool false, .string (bs r.n), .string (bs r.d)] 40)
      have HB1 := Lib.hid (HBW.out.trans (hb1.mono HBW.out.size))
      clear hb1
      clear est hre hA hr3
      obtain ⟨j0, hj0, hy0, hy1, hy2⟩ := info_parts use_info
      have hlu := HS.out.lu
      cases hq : mulR r s.bat
      · skip
        rw [hq] at HST HD
        have HR3 := Lib.hid (HS.out.stop HF.out HX.out HST.out)
        clear hq HST
        simp only [calcV] at HD
        go_wp2_with fail
        refine (HD.out _).mono ?_
        rintro e w6 ⟨rfl, hb⟩
        have HU6 := Lib.hid (HU1.out.below hb)
        have HV6 := Lib.hid (HV1.out.below hb)
        have HKA6 := Lib.hid (HKA.out.below hb HKA.out.lt)
        have HKB6 := Lib.hid (HKB.out.below hb HKB.out.lt)
        have HKX6 := Lib.hid (HKX.out.below hb HKX.out.lt)
        have HB6 := Lib.hid (HB1.out.trans (hb.mono HB1.out.size))
        have hneA2 : w.heap.size ≠ kB := hneK
        clear hb HU1 HV1 HKA HKB HKX HB1 a0 a1 a2 b0 b1 b2 g0 g1 g2 hkal hkbl d0 d1 d2 d3 d4 d5
        obtain ⟨y0, _⟩ := HKX6.out.at 0 _ rfl
        obtain ⟨y1, _⟩ := HKX6.out.at 1 _ rfl
        obtain ⟨y2, _⟩ := HKX6.out.at 2 _ rfl
        obtain ⟨y3, _⟩ := HKX6.out.at 3 _ rfl
        obtain ⟨y4, _⟩ := HKX6.out.at 4 _ rfl
        obtain ⟨y5, _⟩ := HKX6.out.at 5 _ rfl
        obtain ⟨b0, g0⟩ := HKB6.out.at 0 _ rfl
        obtain ⟨b1, g1⟩ := HKB6.out.at 1 _ rfl
        obtain ⟨b2, g2⟩ := HKB6.out.at 2 _ rfl
        have hkbl := HKB6.out.lt
        have hkxl := HKX6.out.lt
        have hkx := hneX
        have hbr := (Below.refl w6.heap.size w6).alloc (Nat.le_refl _) (.cells #[.bool false, .string ⟨#[]⟩, .string ⟨#[]⟩] 25)
        have HU8 := Lib.hid (HU6.out.below hbr)
        have HV8 := Lib.hid (HV6.out.below hbr)
        have HB8 := Lib.hid (HB6.out.trans (hbr.mono HB6.out.size))
        have HKA8 := Lib.hid (HKA6.out.alloc (.cells #[.bool false, .string ⟨#[]⟩, .string ⟨#[]⟩] 25))
        have HKB8 := Lib.hid (HKB6.out.alloc (.cells #[.bool false, .string ⟨#[]⟩, .string ⟨#[]⟩] 25))
        clear hbr
        go_wp2_with (at_builtin; refine wpList_append_any _ rfl _ _ _ rfl w.heap.size 58 j0 _ 6 56 Tryz.underlying29 hj0 hy0 hy1 hy2 rfl (by omega) (.slice A1 s.uses.length c1) s.uses.length (useC s.uses) rfl ?_ (w6.heap.size + 1 + 1) (some ⟨w6.heap.size + 1, 0, none⟩) 1 1 [.int .i64 XA, .bool false, .string ⟨#[]⟩, .string ⟨#[]⟩, .bool true, .bool false] rfl ?_ ?_ ?_ ?_ ?_ ?_)
        · exact (HU8.out.below ((Below.refl _ _).alloc (Nat.le_refl _) _)).own
        · have := Blk.new (w6.alloc (.cells #[.bool false, .string ⟨#[]⟩, .string ⟨#[]⟩] 25)) [.int .i64 XA, .bool false, .string ⟨#[]⟩, .string ⟨#[]⟩, .bool true, .bool false] 58
          rw [World.size_alloc] at this
          exact reads_new this
        · intro u hu; simp at hu; rcases hu with rfl | rfl | rfl | rfl | rfl | rfl <;> rfl
        · simp only [maxLen]; omega
        · omega
        · have := HB6.out.size; simp; omega
        intro v7 w7 hown hg hat
        obtain ⟨A7, c7, rfl⟩ := owns_slice hown
        have HB7 := Lib.hid (app_below2 HB8.out hg (own_base HU6.out.own))
        clear hown hg hat
        go_wp2
        exact bodyPost_ret (v := .tuple #[.slice none 0 0, .slice none 0 0, .int .i64 0, .int .i64 0, .int .i64 2]) (by simp [results, Tryz.results8, go_sem]) rfl (runres_err (by rw [HR3.out]) (by decide) HB7.out)
      · rename_i q
        rw [hq] at HST HD
        clear hq
        simp only [calcV] at HD
        go_wp2_with fail
        refine (HD.out _).mono ?_
        rintro e w6 ⟨rfl, hb⟩
        have HU6 := Lib.hid (HU1.out.below hb)
        have HV6 := Lib.hid (HV1.out.below hb)
        have HKA6 := Lib.hid (HKA.out.below hb HKA.out.lt)
        have HKB6 := Lib.hid (HKB.out.below hb HKB.out.lt)
        have HKX6 := Lib.hid (HKX.out.below hb HKX.out.lt)
        have HB6 := Lib.hid (HB1.out.trans (hb.mono HB1.out.size))
        have hneA2 : w.heap.size ≠ kB := hneK
        clear hb HU1 HV1 HKA HKB HKX HB1 a0 a1 a2 b0 b1 b2 g0 g1 g2 hkal hkbl d0 d1 d2 d3 d4 d5
        obtain ⟨y0, _⟩ := HKX6.out.at 0 _ rfl
        obtain ⟨y1, _⟩ := HKX6.out.at 1 _ rfl
        obtain ⟨y2, _⟩ := HKX6.out.at 2 _ rfl
        obtain ⟨y3, _⟩ := HKX6.out.at 3 _ rfl
        obtain ⟨y4, _⟩ := HKX6.out.at 4 _ rfl
        obtain ⟨y5, _⟩ := HKX6.out.at 5 _ rfl
        obtain ⟨b0, g0⟩ := HKB6.out.at 0 _ rfl
        obtain ⟨b1, g1⟩ := HKB6.out.at 1 _ rfl
        obtain ⟨b2, g2⟩ := HKB6.out.at 2 _ rfl
        have hkbl := HKB6.out.lt
        have hkxl := HKX6.out.lt
        have hkx := hneX
        have hbr := (Below.refl w6.heap.size w6).alloc (Nat.le_refl _) (.cells #[.bool q.neg, .string (bs q.n), .string (bs q.d)] 25)
        have HU8 := Lib.hid (HU6.out.below hbr)
        have HV8 := Lib.hid (HV6.out.below hbr)
        have HB8 := Lib.hid (HB6.out.trans (hbr.mono HB6.out.size))
        have HKA8 := Lib.hid (HKA6.out.alloc (.cells #[.bool q.neg, .string (bs q.n), .string (bs q.d)] 25))
        have HKB8 := Lib.hid (HKB6.out.alloc (.cells #[.bool q.neg, .string (bs q.n), .string (bs q.d)] 25))
        clear hbr
        go_wp2_with (at_builtin; refine wpList_append_any _ rfl _ _ _ rfl w.heap.size 58 j0 _ 6 56 Tryz.underlying29 hj0 hy0 hy1 hy2 rfl (by omega) (.slice A1 s.uses.length c1) s.uses.length (useC s.uses) rfl ?_ (w6.heap.size + 1 + 1) (some ⟨w6.heap.size + 1, 0, none⟩) 1 1 [.int .i64 XA, .bool q.neg, .string (bs q.n), .string (bs q.d), .bool true, .bool false] rfl ?_ ?_ ?_ ?_ ?_ ?_)
        · exact (HU8.out.below ((Below.refl _ _).alloc (Nat.le_refl _) _)).own
        · have := Blk.new (w6.alloc (.cells #[.bool q.neg, .string (bs q.n), .string (bs q.d)] 25)) [.int .i64 XA, .bool q.neg, .string (bs q.n), .string (bs q.d), .bool true, .bool false] 58
          rw [World.size_alloc] at this
          exact reads_new this
        · intro u hu; simp at hu; rcases hu with rfl | rfl | rfl | rfl | rfl | rfl <;> rfl
        · simp only [maxLen]; omega
        · omega
        · have := HB6.out.size; simp; omega
        intro v7 w7 hown hg hat
        obtain ⟨A7, c7, rfl⟩ := owns_slice hown
        have HB7 := Lib.hid (app_below2 HB8.out hg (own_base HU6.out.own))
        have HWa := Lib.hid (HU8.out.below ((Below.refl (w6.alloc (.cells #[.bool q.neg, .string (bs q.n), .string (bs q.d)] 25)).heap.size (w6.alloc (.cells #[.bool q.neg, .string (bs q.n), .string (bs q.d)] 25))).alloc (Nat.le_refl _) (.cells #[.int .i64 XA, .bool q.neg, .string (bs q.n), .string (bs q.d), .bool true, .bool false] 58)))
        have HOa := Lib.hid (HV8.out.below ((Below.refl (w6.alloc (.cells #[.bool q.neg, .string (bs q.n), .string (bs q.d)] 25)).heap.size (w6.alloc (.cells #[.bool q.neg, .string (bs q.n), .string (bs q.d)] 25))).alloc (Nat.le_refl _) (.cells #[.int .i64 XA, .bool q.neg, .string (bs q.n), .string (bs q.d), .bool true, .bool false] 58)))
        have HOT := Lib.hid (owns_of HOa.out.own fun g hg1 => hg.block g (owns_lt HOa.out.own hg1) (fun e => owns_ne_owns HOa.out.own HWa.out.own (by decide) g hg1 e.symm))
        have HKA7 := Lib.hid ((HKA8.out.alloc (.cells #[.int .i64 XA, .bool q.neg, .string (bs q.n), .string (bs q.d), .bool true, .bool false] 58)).grown hg (fun e => owns_ne_blk HWa.out.own (HKA8.out.alloc (.cells #[.int .i64 XA, .bool q.neg, .string (bs q.n), .string (bs q.d), .bool true, .bool false] 58)) (by decide) _ e.symm rfl))
        have HKB7 := Lib.hid ((HKB8.out.alloc (.cells #[.int .i64 XA, .bool q.neg, .string (bs q.n), .string (bs q.d), .bool true, .bool false] 58)).grown hg (fun e => owns_ne_blk HWa.out.own (HKB8.out.alloc (.cells #[.int .i64 XA, .bool q.neg, .string (bs q.n), .string (bs q.d), .bool true, .bool false] 58)) (by decide) _ e.symm rfl))
        have HRU : Hid (w7.ownsRow w.heap.size 58 6 (.slice A7 (s.uses.length + 1) c7) (s.uses ++ [(⟨XA, q, true, false⟩ : UseR)]).length (useC (s.uses ++ [(⟨XA, q, true, false⟩ : UseR)]))) := by
          show World.ownsRow _ _ _ _ _ _ _
          rw [useC_snoc, List.length_append]
          exact hown
        have HGO : Hid (∃ g', SInv w w7 w.heap.size kB l ch day amt R { s with fuel := f', next := s.next + 1, uses := s.uses ++ [(⟨XA, q, true, false⟩ : UseR)] } g' (.slice A7 (s.uses.length + 1) c7) (.slice A2 s.works.length c2)) := HS.out.go hok ha han HF.out HX.out HST.out HRU.out HOT.out HKA7.out HKB7.out HB7.out
        clear hown hg hat HOT HRU HKA7 HKB7 HB7 HST HWa HOa
        go_wp2
        obtain ⟨g', hg'⟩ := HGO.out
        refine ⟨⟨{ s with fuel := f', next := s.next + 1, uses := s.uses ++ [(⟨XA, q, true, false⟩ : UseR)] }, g', A7, c7, _, _, rfl, rfl, by simp, rfl, rfl, by go_num, ?_⟩, by have := HF.out; simp [intOf]; omega⟩
        simp only [List.length_append, List.length_cons, List.length_nil]
        exact hg'
    · have hA : (0 ≤ XA ∧ XA ≤ 15) ∧ 0 ≤ XB ∧ XB ≤ 15 := by have := HVX.out; simp [vldB, btw] at this; exact this
      have est : stepI ch day amt ⟨6, XA, XB, xneg, xn, xd⟩ { s with fuel := f', next := s.next + 1 } = match ceilR s.bat with | none => Out.stop 2 { s with fuel := f', next := s.next + 1 } | some k => if 1099511627776 < k then .stop 2 { s with fuel := f', next := s.next + 1 } else .go { s with fuel := f', next := s.next + 1, works := s.works ++ [(XA, XB * k)] } := rfl
      have HST := Lib.hid est
      have HD := Lib.hid (fun W => ceil07_any s.bat W HS.out.bat HS.out.pos)
      unfold ratV at HD
      have hb1 := (Below.refl wr.heap.size wr).alloc (Nat.le_refl _) (.cells #[.int .i64 6, .int .i64 XA, .int .i64 XB, .bool xneg, .string xn, .string xd] 40)
      have HU1 := Lib.hid (Own.mk (owns_of HS.out.ru fun g hg => hb1.block g (owns_lt HS.out.ru hg)))
      have HV1 := Lib.hid (Own.mk (owns_of HS.out.rk fun g hg => hb1.block g (owns_lt HS.out.rk hg)))
      have HKA := Lib.hid (HS.out.ka.below hb1 hkal)
      have HKB := Lib.hid (HS.out.kb.below hb1 hkbl)
      have HKX := Lib.hid (Blk.new wr [.int .i64 6, .int .i64 XA, .int .i64 XB, .bool xneg, .string xn, .string xd] 40)
      have HB1 := Lib.hid (HBW.out.trans (hb1.mono HBW.out.size))
      clear hb1
      clear est
      cases hq : ceilR s.bat
      · rw [hq] at HST HD
        have HR3 := Lib.hid (HS.out.stop HF.out HX.out HST.out)
        clear hq HST
        simp only [ceilV] at HD
        go_wp2_with fail
        refine (HD.out _).mono ?_
        rintro e w6 ⟨rfl, hb⟩
        have HU6 := Lib.hid (HU1.out.below hb)
        have HV6 := Lib.hid (HV1.out.below hb)
        have HKA6 := Lib.hid (HKA.out.below hb HKA.out.lt)
        have HKB6 := Lib.hid (HKB.out.below hb HKB.out.lt)
        have HKX6 := Lib.hid (HKX.out.below hb HKX.out.lt)
        have HB6 := Lib.hid (HB1.out.trans (hb.mono HB1.out.size))
        have hneA2 : w.heap.size ≠ kB := hneK
        clear hb HU1 HV1 HKA HKB HKX HB1 a0 a1 a2 b0 b1 b2 g0 g1 g2 hkal hkbl d0 d1 d2 d3 d4 d5
        obtain ⟨y0, _⟩ := HKX6.out.at 0 _ rfl
        obtain ⟨y1, _⟩ := HKX6.out.at 1 _ rfl
        obtain ⟨y2, _⟩ := HKX6.out.at 2 _ rfl
        obtain ⟨y3, _⟩ := HKX6.out.at 3 _ rfl
        obtain ⟨y4, _⟩ := HKX6.out.at 4 _ rfl
        obtain ⟨y5, _⟩ := HKX6.out.at 5 _ rfl
        obtain ⟨b0, g0⟩ := HKB6.out.at 0 _ rfl
        obtain ⟨b1, g1⟩ := HKB6.out.at 1 _ rfl
        obtain ⟨b2, g2⟩ := HKB6.out.at 2 _ rfl
        have hkbl := HKB6.out.lt
        have hkxl := HKX6.out.lt
        have hkx := hneX
        go_wp2
        exact bodyPost_ret (v := .tuple #[.slice none 0 0, .slice none 0 0, .int .i64 0, .int .i64 0, .int .i64 2]) (by simp [results, Tryz.results8, go_sem]) rfl (runres_err (by rw [HR3.out]) (by decide) HB6.out)
      rename_i k
      rw [hq] at HST HD
      clear hq
      simp only [ceilV] at HD HST
      by_cases hbig : 1099511627776 < k
      · rw [if_pos hbig] at HST
        have HR3 := Lib.hid (HS.out.stop HF.out HX.out HST.out)
        have tk : (1099511627776 : Int) < (k : Int) := by omega
        clear HST hbig
        go_wp2_with fail
        refine (HD.out _).mono ?_
        rintro e w6 ⟨rfl, hb⟩
        have HU6 := Lib.hid (HU1.out.below hb)
        have HV6 := Lib.hid (HV1.out.below hb)
        have HKA6 := Lib.hid (HKA.out.below hb HKA.out.lt)
        have HKB6 := Lib.hid (HKB.out.below hb HKB.out.lt)
        have HKX6 := Lib.hid (HKX.out.below hb HKX.out.lt)
        have HB6 := Lib.hid (HB1.out.trans (hb.mono HB1.out.size))
        have hneA2 : w.heap.size ≠ kB := hneK
        clear hb HU1 HV1 HKA HKB HKX HB1 a0 a1 a2 b0 b1 b2 g0 g1 g2 hkal hkbl d0 d1 d2 d3 d4 d5
        obtain ⟨y0, _⟩ := HKX6.out.at 0 _ rfl
        obtain ⟨y1, _⟩ := HKX6.out.at 1 _ rfl
        obtain ⟨y2, _⟩ := HKX6.out.at 2 _ rfl
        obtain ⟨y3, _⟩ := HKX6.out.at 3 _ rfl
        obtain ⟨y4, _⟩ := HKX6.out.at 4 _ rfl
        obtain ⟨y5, _⟩ := HKX6.out.at 5 _ rfl
        obtain ⟨b0, g0⟩ := HKB6.out.at 0 _ rfl
        obtain ⟨b1, g1⟩ := HKB6.out.at 1 _ rfl
        obtain ⟨b2, g2⟩ := HKB6.out.at 2 _ rfl
        have hkbl := HKB6.out.lt
        have hkxl := HKX6.out.lt
        have hkx := hneX
        go_wp2
        exact bodyPost_ret (v := .tuple #[.slice none 0 0, .slice none 0 0, .int .i64 0, .int .i64 0, .int .i64 2]) (by simp [results, Tryz.results8, go_sem]) rfl (runres_err (by rw [HR3.out]) (by decide) HB6.out)
      rw [if_neg hbig] at HST
      have tk : ¬ (1099511627776 : Int) < (k : Int) := by omega
      have hxk : 0 ≤ XB * (k : Int) ∧ XB * (k : Int) ≤ 16492674416640 := ⟨Int.mul_nonneg (by omega) (by omega), Int.le_trans (Int.mul_le_mul hA.2.2 (show (k : Int) ≤ 1099511627776 by omega) (by omega) (by omega)) (by omega)⟩
      have yk : IntKind.i64.wrap (XB * (k : Int)) = XB * (k : Int) := by rw [IntKind.wrap_i64]; omega
      obtain ⟨j0, hj0, hy0, hy1, hy2⟩ := info_parts work_info
      have hlw := HS.out.lw
      clear hbig hxk
      go_wp2_with fail
      refine (HD.out _).mono ?_
      rintro e w6 ⟨rfl, hb⟩
      have HU6 := Lib.hid (HU1.out.below hb)
      have HV6 := Lib.hid (HV1.out.below hb)
      have HKA6 := Lib.hid (HKA.out.below hb HKA.out.lt)
      have HKB6 := Lib.hid (HKB.out.below hb HKB.out.lt)
      have HKX6 := Lib.hid (HKX.out.below hb HKX.out.lt)
      have HB6 := Lib.hid (HB1.out.trans (hb.mono HB1.out.size))
      have hneA2 : w.heap.size ≠ kB := hneK
      clear hb HU1 HV1 HKA HKB HKX HB1 a0 a1 a2 b0 b1 b2 g0 g1 g2 hkal hkbl d0 d1 d2 d3 d4 d5
      obtain ⟨y0, _⟩ := HKX6.out.at 0 _ rfl
      obtain ⟨y1, _⟩ := HKX6.out.at 1 _ rfl
      obtain ⟨y2, _⟩ := HKX6.out.at 2 _ rfl
      obtain ⟨y3, _⟩ := HKX6.out.at 3 _ rfl
      obtain ⟨y4, _⟩ := HKX6.out.at 4 _ rfl
      obtain ⟨y5, _⟩ := HKX6.out.at 5 _ rfl
      obtain ⟨b0, g0⟩ := HKB6.out.at 0 _ rfl
      obtain ⟨b1, g1⟩ := HKB6.out.at 1 _ rfl
      obtain ⟨b2, g2⟩ := HKB6.out.at 2 _ rfl
      have hkbl := HKB6.out.lt
      have hkxl := HKX6.out.lt
      have hkx := hneX
      go_wp2_with (at_builtin; refine wpList_append_any _ rfl _ _ _ rfl w.heap.size 60 j0 _ 2 16 Tryz.underlying30 hj0 hy0 hy1 hy2 rfl (by omega) (.slice A2 s.works.length c2) s.works.length (workC s.works) rfl ?_ (w6.heap.size + 1) (some ⟨w6.heap.size, 0, none⟩) 1 1 (workV (XA, XB * (k : Int))) rfl ?_ ?_ ?_ ?_ ?_ ?_)
      · exact (HV6.out.below ((Below.refl _ _).alloc (Nat.le_refl _) _)).own
      · exact reads_new (Blk.new w6 (workV (XA, XB * (k : Int))) 60)
      · intro u hu; simp [workV] at hu; rcases hu with rfl | rfl <;> rfl
      · simp only [maxLen]; omega
      · omega
      · have := HB6.out.size; simp; omega
      intro v7 w7 hown hg hat
      obtain ⟨A7, c7, rfl⟩ := owns_slice hown
      have HWa := Lib.hid (HV6.out.below ((Below.refl w6.heap.size w6).alloc (Nat.le_refl _) (.cells #[.int .i64 XA, .int .i64 (XB * (k : Int))] 60)))
      have HOa := Lib.hid (HU6.out.below ((Below.refl w6.heap.size w6).alloc (Nat.le_refl _) (.cells #[.int .i64 XA, .int .i64 (XB * (k : Int))] 60)))
      have HOT := Lib.hid (owns_of HOa.out.own fun g hg1 => hg.block g (owns_lt HOa.out.own hg1) (fun e => owns_ne_owns HOa.out.own HWa.out.own (by decide) g hg1 e.symm))
      have HKA7 := Lib.hid ((HKA6.out.alloc _).grown hg (fun e => owns_ne_blk HWa.out.own (HKA6.out.alloc _) (by decide) _ e.symm rfl))
      have HKB7 := Lib.hid ((HKB6.out.alloc _).grown hg (fun e => owns_ne_blk HWa.out.own (HKB6.out.alloc _) (by decide) _ e.symm rfl))
      have HB7 := Lib.hid (app_below2 HB6.out hg (own_base HV6.out.own))
      clear HWa HOa
      have HRK : Hid (w7.ownsRow w.heap.size 60 2 (.slice A7 (s.works.length + 1) c7) (s.works ++ [(XA, XB * (k : Int))]).length (workC (s.works ++ [(XA, XB * (k : Int))]))) := by
        show World.ownsRow _ _ _ _ _ _ _
        rw [workC_snoc, List.length_append]
        exact hown
      have HGO : Hid (∃ g', SInv w w7 w.heap.size kB l ch day amt R { s with fuel := f', next := s.next + 1, works := s.works ++ [(XA, XB * (k : Int))] } g' (.slice A1 s.uses.length c1) (.slice A7 (s.works.length + 1) c7)) := HS.out.go hok ha han HF.out HX.out HST.out HOT.out HRK.out HKA7.out HKB7.out HB7.out
      clear hown hg hat HOT HRK HKA7 HKB7 HB7 HST
      go_wp2
      obtain ⟨g', hg'⟩ := HGO.out
      refine ⟨⟨{ s with fuel := f', next := s.next + 1, works := s.works ++ [(XA, XB * (k : Int))] }, g', _, _, A7, c7, rfl, rfl, rfl, by simp, rfl, by go_num, ?_⟩, by have := HF.out; simp [intOf]; omega⟩
      simp only [List.length_append, List.length_cons, List.length_nil]
      exact hg'
    · have HR7 : Hid (R = (0, { s with fuel := f', next := s.next + 1 })) := HS.out.stop HF.out HX.out (by simp [stepI])
      have hb1 := (Below.refl wr.heap.size wr).alloc (Nat.le_refl _) (.cells #[.int .i64 7, .int .i64 XA, .int .i64 XB, .bool xneg, .string xn, .string xd] 40)
      have HU1 := Lib.hid (owns_of HS.out.ru fun g hg => hb1.block g (owns_lt HS.out.ru hg))
      have HV1 := Lib.hid (owns_of HS.out.rk fun g hg => hb1.block g (owns_lt HS.out.rk hg))
      have HB1 := Lib.hid (HBW.out.trans (hb1.mono HBW.out.size))
      clear hb1
      go_wp2
      refine bodyPost_ret (v := .tuple #[.slice A1 s.uses.length c1, .slice A2 s.works.length c2, .int .i64 s.lead, .int .i64 (f' : Int), .int .i64 0]) (by simp [results, Tryz.results8, go_sem]) rfl ?_
      rw [HR7.out]
      exact ⟨HB1.out, .inl ⟨rfl, _, _, rfl, HU1.out, HV1.out⟩⟩
    · have HR8 : Hid (R = (160, { s with fuel := f', next := s.next + 1 })) := HS.out.stop HF.out HX.out (by simp [stepI])
      have hb1 := (Below.refl wr.heap.size wr).alloc (Nat.le_refl _) (.cells #[.int .i64 8, .int .i64 XA, .int .i64 XB, .bool xneg, .string xn, .string xd] 40)
      have HB1 := Lib.hid (HBW.out.trans (hb1.mono HBW.out.size))
      clear hb1
      go_wp2
      exact bodyPost_ret (v := .tuple #[.slice none 0 0, .slice none 0 0, .int .i64 0, .int .i64 0, .int .i64 160]) (by simp [results, Tryz.results8, go_sem]) rfl (runres_err (by rw [HR8.out]) (by decide) HB1.out)

end Go.Proofs.YtoolanjbmbcaiaaGreatDoor
