/- Contracts of functions that the law reaches, and plain lemmas, texts Eh Ei Ej Ek El Sa Sb Sc Sd: no condition beyond those that each theorem names. -/
import Derived.Test.YtoolanjbmbcaiaaGreatDoorGe
import Derived.Scope
import Derived.RecoverIn
import Derived.Test.YtoolanjbmbcaiaaGreatDoorGd
namespace Go.Proofs.YtoolanjbmbcaiaaGreatDoor
open Go Go.RowKit Bf

set_option maxRecDepth 100000 in
set_option maxHeartbeats 4000000 in
theorem All0 (w : World) : Calls Tryz.prog 236 #[.agg #[.slice none 0 0, .slice none 0 0, .slice none 0 0, .slice none 0 0, .slice none 0 0, .slice none 0 0, .slice none 0 0, .slice none 0 0]] w fun e w' => ∃ v, e = .returned (.tuple #[v, .int .i64 0]) ∧ Below w.heap.size w w' := by
  have hnot : ∀ (x : Bool) (w : World), (Op.unary .not (.bool x)).run Tryz.prog w = .ok (.bool (!x)) w := fun _ _ => rfl
  go_enter Tryz.func236, Tryz.ntmps236
  go_wp2_with (first | (go_at_call 57; refine (optsValid0 _).mono ?_; rintro e w1 ⟨rfl, rfl⟩) | (go_at_call 155; refine (configs0 _).mono ?_; rintro e w1 ⟨rfl, rfl⟩))
  refine (collectInts0 (w.heap.size + 1 + 1) _ ?_).mono ?_
  · have := Blk.new ((w.alloc (.cells #[.slice none 0 0, .slice none 0 0, .slice none 0 0, .slice none 0 0, .slice none 0 0, .slice none 0 0, .slice none 0 0, .slice none 0 0] 53)).alloc (.cells #[.slice none 0 0, .slice none 0 0, .slice none 0 0, .slice none 0 0, .slice none 0 0, .slice none 0 0, .slice none 0 0, .slice none 0 0] 53)) [.slice none 0 0, .slice none 0 0, .slice none 0 0, .slice none 0 0, .slice none 0 0, .slice none 0 0, .slice none 0 0, .slice none 0 0] 53
    rwa [World.size_alloc, World.size_alloc] at this
  rintro e w1 ⟨v, rfl, hb1⟩
  have HB1 := Lib.hid (Below.trans (by
    repeat' (first | exact Below.refl _ _ | refine Below.alloc ?_ ?_ _ | refine Below.setCell ?_ ?_ _ | refine Below.drew ?_)
    all_goals first | (simp; done) | (simp; omega) | omega) (hb1.mono (by simp; omega)) : Below w.heap.size w w1)
  clear hb1
  go_wp2
  refine bodyPost_ret (v := .tuple #[v, .int .i64 0]) (by simp [results, Tryz.results236, go_sem]) rfl ⟨_, rfl, HB1.out⟩

theorem hole_end (b : Nat) (W : World) (tmps : Array Value) (h2 : tmps.getD 2 undef = .pointer (some ⟨b, 0, none⟩)) (h3 : tmps.getD 3 undef = .bool false) (h4 : tmps.getD 4 undef = .int .i64 0) (k : Blk W b [.int .i64 0, .int .i64 0, .int .i64 0, .slice none 0 0, .int .i64 0] 150) :
    (results Tryz.f108 tmps).run Tryz.prog W = .ok (.tuple #[.agg #[.int .i64 0, .int .i64 0, .int .i64 0, .slice none 0 0, .int .i64 0], .bool false, .int .i64 0]) W := by
  rw [Array.getD_eq_getD_getElem?] at h2 h3 h4
  have r0 := (k.at 0 _ rfl).1
  have r1 := (k.at 1 _ rfl).1
  have r2 := (k.at 2 _ rfl).1
  have r3 := (k.at 3 _ rfl).1
  have r4 := (k.at 4 _ rfl).1
  simp [results, Tryz.results108, go_sem, h2, h3, h4, r0, r1, r2, r3, r4]

set_option maxRecDepth 100000 in
set_option maxHeartbeats 4000000 in
theorem Hole0 (w : World) : Calls Tryz.prog 108 #[.agg #[.slice none 0 0, .slice none 0 0, .slice none 0 0, .slice none 0 0, .slice none 0 0, .slice none 0 0, .slice none 0 0, .slice none 0 0]] w (Ret w (.tuple #[.agg #[.int .i64 0, .int .i64 0, .int .i64 0, .slice none 0 0, .int .i64 0], .bool false, .int .i64 0])) := by
  have hnot : ∀ (x : Bool) (w : World), (Op.unary .not (.bool x)).run Tryz.prog w = .ok (.bool (!x)) w := fun _ _ => rfl
  go_enter Tryz.func108, Tryz.ntmps108
  go_wp2_with fail
  refine wp_scope_straight ?_
  go_wp2_with (first | (go_at_call 57; refine (optsValid0 _).mono ?_; rintro e w1 ⟨rfl, rfl⟩) | (go_at_call 155; refine (configs0 _).mono ?_; rintro e w1 ⟨rfl, rfl⟩))
  refine (collectInts0 (w.heap.size + 1 + 1 + 1) _ ?_).mono ?_
  · have := Blk.new (((w.alloc (.cells #[.slice none 0 0, .slice none 0 0, .slice none 0 0, .slice none 0 0, .slice none 0 0, .slice none 0 0, .slice none 0 0, .slice none 0 0] 53)).alloc (.cells #[.int .i64 0, .int .i64 0, .int .i64 0, .slice none 0 0, .int .i64 0] 150)).alloc (.cells #[.slice none 0 0, .slice none 0 0, .slice none 0 0, .slice none 0 0, .slice none 0 0, .slice none 0 0, .slice none 0 0, .slice none 0 0] 53)) [.slice none 0 0, .slice none 0 0, .slice none 0 0, .slice none 0 0, .slice none 0 0, .slice none 0 0, .slice none 0 0, .slice none 0 0] 53
    rwa [World.size_alloc, World.size_alloc, World.size_alloc] at this
  rintro e w1 ⟨v, rfl, hb1⟩
  have HB1 := Lib.hid (Below.trans (by
    repeat' (first | exact Below.refl _ _ | refine Below.alloc ?_ ?_ _ | refine Below.setCell ?_ ?_ _ | refine Below.drew ?_)
    all_goals first | (simp; done) | (simp; omega) | omega) (hb1.mono (by simp; omega)) : Below w.heap.size w w1)
  have K0 := Lib.hid (((((Blk.new w [.slice none 0 0, .slice none 0 0, .slice none 0 0, .slice none 0 0, .slice none 0 0, .slice none 0 0, .slice none 0 0, .slice none 0 0] 53).alloc _).alloc _).alloc _).below hb1 (by simp; omega))
  have K1 : Hid (Blk w1 (w.heap.size + 1) [.int .i64 0, .int .i64 0, .int .i64 0, .slice none 0 0, .int .i64 0] 150) := by
    have := ((Blk.new (w.alloc (.cells #[.slice none 0 0, .slice none 0 0, .slice none 0 0, .slice none 0 0, .slice none 0 0, .slice none 0 0, .slice none 0 0, .slice none 0 0] 53)) [.int .i64 0, .int .i64 0, .int .i64 0, .slice none 0 0, .int .i64 0] 150).alloc (.cells #[.slice none 0 0, .slice none 0 0, .slice none 0 0, .slice none 0 0, .slice none 0 0, .slice none 0 0, .slice none 0 0, .slice none 0 0] 53)).alloc (.cells #[.slice none 0 0, .slice none 0 0, .slice none 0 0, .slice none 0 0, .slice none 0 0, .slice none 0 0, .slice none 0 0, .slice none 0 0] 53)
    rw [World.size_alloc] at this
    exact this.below hb1 (by simp)
  clear hb1
  obtain ⟨q0, _⟩ := K0.out.at 0 _ rfl
  obtain ⟨q1, _⟩ := K0.out.at 1 _ rfl
  obtain ⟨q2, _⟩ := K0.out.at 2 _ rfl
  obtain ⟨q3, _⟩ := K0.out.at 3 _ rfl
  obtain ⟨q4, _⟩ := K0.out.at 4 _ rfl
  obtain ⟨q5, _⟩ := K0.out.at 5 _ rfl
  obtain ⟨q6, _⟩ := K0.out.at 6 _ rfl
  obtain ⟨q7, _⟩ := K0.out.at 7 _ rfl
  have hy : w.heap.size < w1.heap.size := K0.out.lt
  have hy1 : w.heap.size + 1 < w1.heap.size := K1.out.lt
  go_wp2_with fail
  refine wp_label ?_
  go_wp2_with fail
  refine (places0 _).mono ?_
  rintro e w2 ⟨rfl, hb2⟩
  have HB2 := Lib.hid (HB1.out.trans (hb2.mono HB1.out.size))
  have K2 := Lib.hid (K1.out.below hb2 hy1)
  clear hb2 q0 q1 q2 q3 q4 q5 q6 q7
  obtain ⟨p0, f0⟩ := K2.out.at 0 _ rfl
  obtain ⟨p1, f1⟩ := K2.out.at 1 _ rfl
  obtain ⟨p2, f2⟩ := K2.out.at 2 _ rfl
  obtain ⟨p3, f3⟩ := K2.out.at 3 _ rfl
  obtain ⟨p4, f4⟩ := K2.out.at 4 _ rfl
  go_wp2
  refine wp_loop_rounds 1 ?_
  rw [rounds_succ]
  go_wp2
  refine bodyPost_ret (hole_end (w.heap.size + 1) _ _ rfl rfl rfl ?_) rfl ⟨rfl, ?_⟩
  · repeat' (first | with_reducible exact K2.out | with_reducible refine Blk.same ?_ ?_ | with_reducible refine Blk.other ?_ ?_ _)
    all_goals first | rfl | omega | exact K2.out
  · repeat' (first | with_reducible exact HB2.out | with_reducible refine Below.setCell ?_ ?_ _)
    all_goals first | exact Nat.le_succ _ | exact Nat.le_trans (Nat.le_succ _) (Nat.le_succ _)
end Go.Proofs.YtoolanjbmbcaiaaGreatDoor
namespace Go.Proofs.YtoolanjbmbcaiaaGreatDoor
open Go Go.RowKit Bf
attribute [local go_sem] Oper.semAt_some

theorem measureS0 (w : World) : Calls Tryz.prog 275 #[.agg #[.slice none 0 0, .slice none 0 0, .slice none 0 0, .slice none 0 0, .slice none 0 0, .slice none 0 0, .slice none 0 0, .slice none 0 0]] w fun e w' => ∃ v, e = .returned v ∧ w.alloc (.cells #[.slice none 0 0, .slice none 0 0, .slice none 0 0, .slice none 0 0, .slice none 0 0, .slice none 0 0, .slice none 0 0, .slice none 0 0] 53) = w' := by
  have hmf : ∀ (fn : Fn) (first cap : Array Value) (w : World), (Instr.makeFunc fn first cap).run Tryz.prog w = .ok (.func fn first cap) w := fun _ _ _ _ => rfl
  go_enter Tryz.func275, Tryz.ntmps275
  go_wp2
  go_ret
  exact ⟨_, rfl, rfl⟩
theorem deviations0 (w : World) : Calls Tryz.prog 235 #[.agg #[.slice none 0 0, .slice none 0 0, .slice none 0 0, .slice none 0 0, .slice none 0 0, .slice none 0 0, .slice none 0 0, .slice none 0 0]] w fun e w' => e = .returned (.func (.func 274) #[] #[.pointer (some ⟨w.heap.size, 0, none⟩)]) ∧ w.alloc (.cells #[.slice none 0 0, .slice none 0 0, .slice none 0 0, .slice none 0 0, .slice none 0 0, .slice none 0 0, .slice none 0 0, .slice none 0 0] 53) = w' := by
  have hmf : ∀ (fn : Fn) (first cap : Array Value) (w : World), (Instr.makeFunc fn first cap).run Tryz.prog w = .ok (.func fn first cap) w := fun _ _ _ _ => rfl
  go_enter Tryz.func235, Tryz.ntmps235
  go_wp2
  go_ret
  exact ⟨rfl, rfl⟩

set_option maxRecDepth 100000 in
set_option maxHeartbeats 4000000 in
theorem deviations1 (nn l B : Nat) (J Jx : List Empty → World → Prop) (W : World) (hJ : AbidesFrom W.heap.size J) (h : Blk W B [.slice none 0 0, .slice none 0 0, .slice none 0 0, .slice none 0 0, .slice none 0 0, .slice none 0 0, .slice none 0 0, .slice none 0 0] 53) (h0 : J [] W) :
    CallsIn Fence.wide nn Tryz.prog 274 #[.func (.yield l) #[] #[], .pointer (some ⟨B, 0, none⟩)] W fun e W' => (∃ v, e = .returned v) ∧ ((∃ xs, xs = [] ∧ J xs W') ∨ (∃ pre, False ∧ Jx pre W')) := by
  have HJ := Lib.hid (hJ [] W _ none h0 (World.grownBy_alloc W (.cells #[.slice none 0 0, .slice none 0 0, .slice none 0 0, .slice none 0 0, .slice none 0 0, .slice none 0 0, .slice none 0 0, .slice none 0 0] 53) none) (fun r e => by cases e))
  obtain ⟨q0, _⟩ := h.at 0 _ rfl
  obtain ⟨q1, _⟩ := h.at 1 _ rfl
  obtain ⟨q2, _⟩ := h.at 2 _ rfl
  obtain ⟨q3, _⟩ := h.at 3 _ rfl
  obtain ⟨q4, _⟩ := h.at 4 _ rfl
  obtain ⟨q5, _⟩ := h.at 5 _ rfl
  obtain ⟨q6, _⟩ := h.at 6 _ rfl
  obtain ⟨q7, _⟩ := h.at 7 _ rfl
  have hlt := h.lt
  have hne : ¬ W.heap.size = B := by omega
  have hne' : ¬ B = W.heap.size := by omega
  clear h hJ h0
  refine callsIn_of_wp Tryz.func274 rfl trivial ?_ rfl
  simp only [Tryz.ntmps274, List.size_toArray, List.length_cons, List.length_nil, Nat.reduceAdd, Nat.reduceSub, Array.replicate_succ, Array.replicate_zero, List.push_toArray, List.append_toArray, List.nil_append, List.cons_append]
  gi_wp2
  refine ⟨trivial, fun e => by simp [Fence.wide] at e, (callsIn_wide.2 (measureS0 _)).mono ?_⟩
  rintro e w1 ⟨v, rfl, rfl⟩
  gi_wp2
  refine wpIn_loop_rounds 1 ?_
  rw [roundsIn_succ]
  gi_wp2
  go_end0
  exact ⟨⟨_, rfl⟩, .inl ⟨_, rfl, HJ.out⟩⟩

theorem deviations_stops (nn B : Nat) (w : World) (h : Blk w B [.slice none 0 0, .slice none 0 0, .slice none 0 0, .slice none 0 0, .slice none 0 0, .slice none 0 0, .slice none 0 0, .slice none 0 0] 53) :
    SeqStopsK Fence.wide nn Tryz.prog 274 #[.pointer (some ⟨B, 0, none⟩)] (fun x : Empty => x.elim) KeepsWalks (fun xs => xs = []) (fun _ => False) 0 w := fun l J Jx W hW hJ _ _ h0 =>
  deviations1 nn l B J Jx W hJ (h.below hW h.lt) h0

theorem wrong_idle (nn : Nat) (a b c d : Nat) (w : World) :
    CallsDIn Fence.wide nn Tryz.prog 233 #[.pointer (some ⟨a, 0, none⟩), .pointer (some ⟨b, 0, none⟩), .pointer (some ⟨c, 0, none⟩), .pointer (some ⟨d, 0, none⟩)] .returning w fun e u' w' => e = .returned (.tuple #[]) ∧ u' = .returning ∧ w' = w := by
  refine callsDIn_of_wpSIn Tryz.func233 rfl trivial fun c₀ cs hu => ?_
  apply wpSIn_seq
  apply wpSIn_region
  simp [wpOpsSIn, go_sem, recoverD, hu, Tryz.ntmps233, Exit.thenS]
  refine wpSIn_of_wpIn rfl ?_
  simp only [Array.replicate_succ, Array.replicate_zero, List.push_toArray, List.append_toArray, List.nil_append, List.cons_append, List.setIfInBounds_toArray, List.set_cons_zero, List.set_cons_succ]
  refine wpIn_wide.2 ?_
  go_wp2
  cases c₀
  simp_all [bodyPostS, results, Tryz.results233]

theorem wrong_end (b : Nat) (W : World) (tmps : Array Value) (h2 : tmps.getD 2 undef = .pointer (some ⟨b, 0, none⟩)) (h3 : tmps.getD 3 undef = .pointer (some ⟨b + 1, 0, none⟩)) (h4 : tmps.getD 4 undef = .pointer (some ⟨b + 1 + 1, 0, none⟩)) (h5 : tmps.getD 5 undef = .pointer (some ⟨b + 1 + 1 + 1, 0, none⟩))
    (k2 : Blk W b [.int .i64 0] 3) (k3 : Blk W (b + 1) [.bool false, .string ⟨#[]⟩, .string ⟨#[]⟩] 25) (k4 : Blk W (b + 1 + 1) [.bool false] 4) (k5 : Blk W (b + 1 + 1 + 1) [.int .i64 0] 31) :
    (results Tryz.f159 tmps).run Tryz.prog W = .ok (.tuple #[.int .i64 0, .agg #[.bool false, .string ⟨#[]⟩, .string ⟨#[]⟩], .bool false, .int .i64 0]) W := by
  rw [Array.getD_eq_getD_getElem?] at h2 h3 h4 h5
  have r2 := (k2.at 0 _ rfl).1
  have r30 := (k3.at 0 _ rfl).1
  have r31 := (k3.at 1 _ rfl).1
  have r32 := (k3.at 2 _ rfl).1
  have r4 := (k4.at 0 _ rfl).1
  have r5 := (k5.at 0 _ rfl).1
  simp [results, Tryz.results159, go_sem, h2, h3, h4, h5, r2, r30, r31, r32, r4, r5]

theorem keep_set {W : World} {D b i : Nat} {v : Value} {o : Obj} (h : W.heap[D]? = some o) (hne : D ≠ b) : (W.setCell ⟨b, i, none⟩ v).heap[D]? = some o := (Below.heap_setCell _ _ _ _ hne).trans h
theorem Blk.put {W : World} {b D : Nat} {o : Obj} {l : List Value} {t : TypeId} (h : Blk W b l t) (hne : b ≠ D) : Blk (W.putObj D o) b l t := (World.putObj_heap_other hne).trans h

theorem wrong_leave (w Wf : World) (D : Nat) (tmps : Array Value) (h2 : tmps.getD 2 undef = .pointer (some ⟨w.heap.size + 1, 0, none⟩)) (h3 : tmps.getD 3 undef = .pointer (some ⟨w.heap.size + 1 + 1, 0, none⟩)) (h4 : tmps.getD 4 undef = .pointer (some ⟨w.heap.size + 1 + 1 + 1, 0, none⟩)) (h5 : tmps.getD 5 undef = .pointer (some ⟨w.heap.size + 1 + 1 + 1 + 1, 0, none⟩))
    (hK : Wf.heap[D]? = some (.deferred (some []))) (hD : w.heap.size + 1 + 1 + 1 + 1 < D)
    (k2 : Blk Wf (w.heap.size + 1) [.int .i64 0] 3) (k3 : Blk Wf (w.heap.size + 1 + 1) [.bool false, .string ⟨#[]⟩, .string ⟨#[]⟩] 25) (k4 : Blk Wf (w.heap.size + 1 + 1 + 1) [.bool false] 4) (k5 : Blk Wf (w.heap.size + 1 + 1 + 1 + 1) [.int .i64 0] 31) (hb : Below w.heap.size w Wf) :
    bodyPostM Fence.wide 9 Tryz.prog Tryz.f159 (Ret w (.tuple #[.int .i64 0, .agg #[.bool false, .string ⟨#[]⟩, .string ⟨#[]⟩], .bool false, .int .i64 0])) .ret
      { tmps := tmps, defers := [{ target := .collected D, args := #[] }, { target := .fn (.func 233) #[.pointer (some ⟨w.heap.size + 1, 0, none⟩), .pointer (some ⟨w.heap.size + 1 + 1, 0, none⟩), .pointer (some ⟨w.heap.size + 1 + 1 + 1, 0, none⟩), .pointer (some ⟨w.heap.size + 1 + 1 + 1 + 1, 0, none⟩)], args := #[] }] } Wf := by
  refine ⟨by simp, .inl ⟨_, _, rfl, run_takeDeferred hK, ?_⟩⟩
  refine ⟨by simp, .inr ⟨fun e => by simp [Fence.wide] at e, _, _, 233, #[.pointer (some ⟨w.heap.size + 1, 0, none⟩), .pointer (some ⟨w.heap.size + 1 + 1, 0, none⟩), .pointer (some ⟨w.heap.size + 1 + 1 + 1, 0, none⟩), .pointer (some ⟨w.heap.size + 1 + 1 + 1 + 1, 0, none⟩)], rfl, by simp [go_sem], fun _ _ => trivial, ?_⟩⟩
  refine (wrong_idle _ _ _ _ _ _).mono ?_
  rintro e u' w'' ⟨rfl, rfl, rfl⟩
  exact ⟨_, wrong_end _ _ _ h2 h3 h4 h5 (k2.put (by omega)) (k3.put (by omega)) (k4.put (by omega)) (k5.put (by omega)), rfl, hb.trans (belowK_b (w := w) (Nat.le_refl _) Wf D _ _ (by omega) hK rfl rfl)⟩
set_option maxRecDepth 100000 in
set_option maxHeartbeats 4000000 in
theorem Wrong0 (w : World) (hT : Tab w) : Calls Tryz.prog 159 #[.agg #[.slice none 0 0, .slice none 0 0, .slice none 0 0, .slice none 0 0, .slice none 0 0, .slice none 0 0, .slice none 0 0, .slice none 0 0]] w (Ret w (.tuple #[.int .i64 0, .agg #[.bool false, .string ⟨#[]⟩, .string ⟨#[]⟩], .bool false, .int .i64 0])) := by
  have hmf : ∀ (fn : Fn) (first cap : Array Value) (w : World), (Instr.makeFunc fn first cap).run Tryz.prog w = .ok (.func fn first cap) w := fun _ _ _ _ => rfl
  have HT := Lib.hid hT
  clear hT
  refine (callsIn_wide (n := 9)).1 ?_
  refine callsIn_of_wp_marks Tryz.func159 rfl trivial ?_ rfl
  refine wpIn_wide.2 ?_
  simp only [Tryz.ntmps159, List.size_toArray, List.length_cons, List.length_nil, Nat.reduceAdd, Nat.reduceSub, Array.replicate_succ, Array.replicate_zero, List.push_toArray, List.append_toArray, List.nil_append, List.cons_append]
  go_wp2_with fail
  refine (typesCheck0 _ (HT.out.below (by
    repeat' (first | exact Below.refl _ _ | refine Below.alloc ?_ ?_ _ | refine Below.setCell ?_ ?_ _ | refine Below.drew ?_)
    all_goals first | (simp; done) | (simp; omega) | omega : Below w.heap.size w _))).mono ?_
  rintro e w1 ⟨rfl, hb1⟩
  have HB1 := Lib.hid (Below.trans (by
    repeat' (first | exact Below.refl _ _ | refine Below.alloc ?_ ?_ _ | refine Below.setCell ?_ ?_ _ | refine Below.drew ?_)
    all_goals first | (simp; done) | (simp; omega) | omega) (hb1.mono (by simp; omega)) : Below w.heap.size w w1)
  have K0 : Hid (Blk w1 (w.heap.size) [.slice none 0 0, .slice none 0 0, .slice none 0 0, .slice none 0 0, .slice none 0 0, .slice none 0 0, .slice none 0 0, .slice none 0 0] 53) := by
    have := ((((Blk.new w [.slice none 0 0, .slice none 0 0, .slice none 0 0, .slice none 0 0, .slice none 0 0, .slice none 0 0, .slice none 0 0, .slice none 0 0] 53).alloc (.cells #[.int .i64 0] 3)).alloc (.cells #[.bool false, .string ⟨#[]⟩, .string ⟨#[]⟩] 25)).alloc (.cells #[.bool false] 4)).alloc (.cells #[.int .i64 0] 31)
    exact this.below hb1 (by first | (simp; done) | (simp; omega))
  have K1 : Hid (Blk w1 (w.heap.size + 1) [.int .i64 0] 3) := by
    have := (((Blk.new (w.alloc (.cells #[.slice none 0 0, .slice none 0 0, .slice none 0 0, .slice none 0 0, .slice none 0 0, .slice none 0 0, .slice none 0 0, .slice none 0 0] 53)) [.int .i64 0] 3).alloc (.cells #[.bool false, .string ⟨#[]⟩, .string ⟨#[]⟩] 25)).alloc (.cells #[.bool false] 4)).alloc (.cells #[.int .i64 0] 31)
    rw [World.size_alloc] at this
    exact this.below hb1 (by first | (simp; done) | (simp; omega))
  have K2 : Hid (Blk w1 (w.heap.size + 1 + 1) [.bool false, .string ⟨#[]⟩, .string ⟨#[]⟩] 25) := by
    have := ((Blk.new ((w.alloc (.cells #[.slice none 0 0, .slice none 0 0, .slice none 0 0, .slice none 0 0, .slice none 0 0, .slice none 0 0, .slice none 0 0, .slice none 0 0] 53)).alloc (.cells #[.int .i64 0] 3)) [.bool false, .string ⟨#[]⟩, .string ⟨#[]⟩] 25).alloc (.cells #[.bool false] 4)).alloc (.cells #[.int .i64 0] 31)
    rw [World.size_alloc, World.size_alloc] at this
    exact this.below hb1 (by first | (simp; done) | (simp; omega))
  have K3 : Hid (Blk w1 (w.heap.size + 1 + 1 + 1) [.bool false] 4) := by
    have := (Blk.new (((w.alloc (.cells #[.slice none 0 0, .slice none 0 0, .slice none 0 0, .slice none 0 0, .slice none 0 0, .slice none 0 0, .slice none 0 0, .slice none 0 0] 53)).alloc (.cells #[.int .i64 0] 3)).alloc (.cells #[.bool false, .string ⟨#[]⟩, .string ⟨#[]⟩] 25)) [.bool false] 4).alloc (.cells #[.int .i64 0] 31)
    rw [World.size_alloc, World.size_alloc, World.size_alloc] at this
    exact this.below hb1 (by first | (simp; done) | (simp; omega))
  have K4 : Hid (Blk w1 (w.heap.size + 1 + 1 + 1 + 1) [.int .i64 0] 31) := by
    have := Blk.new ((((w.alloc (.cells #[.slice none 0 0, .slice none 0 0, .slice none 0 0, .slice none 0 0, .slice none 0 0, .slice none 0 0, .slice none 0 0, .slice none 0 0] 53)).alloc (.cells #[.int .i64 0] 3)).alloc (.cells #[.bool false, .string ⟨#[]⟩, .string ⟨#[]⟩] 25)).alloc (.cells #[.bool false] 4)) [.int .i64 0] 31
    rw [World.size_alloc, World.size_alloc, World.size_alloc, World.size_alloc] at this
    exact this.below hb1 (by first | (simp; done) | (simp; omega))
  clear hb1
  obtain ⟨q0, _⟩ := K0.out.at 0 _ rfl
  obtain ⟨q1, _⟩ := K0.out.at 1 _ rfl
  obtain ⟨q2, _⟩ := K0.out.at 2 _ rfl
  obtain ⟨q3, _⟩ := K0.out.at 3 _ rfl
  obtain ⟨q4, _⟩ := K0.out.at 4 _ rfl
  obtain ⟨q5, _⟩ := K0.out.at 5 _ rfl
  obtain ⟨q6, _⟩ := K0.out.at 6 _ rfl
  obtain ⟨q7, _⟩ := K0.out.at 7 _ rfl
  have hy0 : w.heap.size < w1.heap.size := K0.out.lt
  have hy1 : w.heap.size + 1 < w1.heap.size := K1.out.lt
  have hy2 : w.heap.size + 1 + 1 < w1.heap.size := K2.out.lt
  have hy3 : w.heap.size + 1 + 1 + 1 < w1.heap.size := K3.out.lt
  have hy4 : w.heap.size + 1 + 1 + 1 + 1 < w1.heap.size := K4.out.lt
  go_wp2_with (go_at_call 235; refine (deviations0 _).mono ?_; rintro e w1 ⟨rfl, rfl⟩)
  refine (wpIn_wide (n := 9)).1 ?_
  have hS := Lib.hid (deviations_stops 8 w1.heap.size _ (Blk.new w1 [.slice none 0 0, .slice none 0 0, .slice none 0 0, .slice none 0 0, .slice none 0 0, .slice none 0 0, .slice none 0 0, .slice none 0 0] 53))
  have KK : Hid (Below w.heap.size w (w1.alloc (.cells #[.slice none 0 0, .slice none 0 0, .slice none 0 0, .slice none 0 0, .slice none 0 0, .slice none 0 0, .slice none 0 0, .slice none 0 0] 53)) ∧ Blk (w1.alloc (.cells #[.slice none 0 0, .slice none 0 0, .slice none 0 0, .slice none 0 0, .slice none 0 0, .slice none 0 0, .slice none 0 0, .slice none 0 0] 53)) (w.heap.size + 1) [.int .i64 0] 3 ∧ Blk (w1.alloc (.cells #[.slice none 0 0, .slice none 0 0, .slice none 0 0, .slice none 0 0, .slice none 0 0, .slice none 0 0, .slice none 0 0, .slice none 0 0] 53)) (w.heap.size + 1 + 1) [.bool false, .string ⟨#[]⟩, .string ⟨#[]⟩] 25 ∧ Blk (w1.alloc (.cells #[.slice none 0 0, .slice none 0 0, .slice none 0 0, .slice none 0 0, .slice none 0 0, .slice none 0 0, .slice none 0 0, .slice none 0 0] 53)) (w.heap.size + 1 + 1 + 1) [.bool false] 4 ∧ Blk (w1.alloc (.cells #[.slice none 0 0, .slice none 0 0, .slice none 0 0, .slice none 0 0, .slice none 0 0, .slice none 0 0, .slice none 0 0, .slice none 0 0] 53)) (w.heap.size + 1 + 1 + 1 + 1) [.int .i64 0] 31) := ⟨HB1.out.alloc HB1.out.size _, K1.out.alloc _, K2.out.alloc _, K3.out.alloc _, K4.out.alloc _⟩
  have hs2 : (w1.alloc (.cells #[.slice none 0 0, .slice none 0 0, .slice none 0 0, .slice none 0 0, .slice none 0 0, .slice none 0 0, .slice none 0 0, .slice none 0 0] 53)).heap.size = w1.heap.size + 1 := by simp
  clear q0 q1 q2 q3 q4 q5 q6 q7 K0 K1 K2 K3 K4 HB1
  generalize w1.alloc (.cells #[.slice none 0 0, .slice none 0 0, .slice none 0 0, .slice none 0 0, .slice none 0 0, .slice none 0 0, .slice none 0 0, .slice none 0 0] 53) = w2 at *
  refine' wpIn_rangeFunc_ownF rfl (by omega) (gf := 274) (lb := #[.pointer (some ⟨w1.heap.size, 0, none⟩)]) rfl trivial (enters_of Tryz.func274 (by kernel_rfl) rfl)
    hS.out walksK_t walksK_b (Below.refl _ _) (fun x => x.elim)
    (fun _ W => Below w.heap.size w W ∧ Blk W (w.heap.size + 1) [.int .i64 0] 3 ∧ Blk W (w.heap.size + 1 + 1) [.bool false, .string ⟨#[]⟩, .string ⟨#[]⟩] 25 ∧ Blk W (w.heap.size + 1 + 1 + 1) [.bool false] 4 ∧ Blk W (w.heap.size + 1 + 1 + 1 + 1) [.int .i64 0] 31)
    (fun _ _ _ => False) ?hI (fun _ _ _ _ _ hs _ _ => hs) KK.out (fun x => x.elim) ?assign ?body ?done ?stop
  case hI =>
    rintro pre A B row ⟨h0, h1, h2, h3, h4⟩ hg hr
    refine ⟨h0.grown hg h0.size (fun k e => by have := (hr k e).1; omega), h1.grown hg ?_, h2.grown hg ?_, h3.grown hg ?_, h4.grown hg ?_⟩ <;>
    · intro e
      have := (hr _ e.symm).1
      omega
  case assign =>
    intro l x
    exact x.elim
  case body =>
    intro l pre x
    exact x.elim
  case done =>
    rintro D xs W hD rfl ⟨h0, h1, h2, h3, h4⟩ hK
    obtain ⟨p1, f1⟩ := h1.at 0 _ rfl
    obtain ⟨p20, f20⟩ := h2.at 0 _ rfl
    obtain ⟨p21, f21⟩ := h2.at 1 _ rfl
    obtain ⟨p22, f22⟩ := h2.at 2 _ rfl
    obtain ⟨p3, f3⟩ := h3.at 0 _ rfl
    obtain ⟨p4, f4⟩ := h4.at 0 _ rfl
    have HH := Lib.hid (And.intro h0 (And.intro h1 (And.intro h2 (And.intro h3 h4))))
    clear h0 h1 h2 h3 h4
    go_wp2
    refine wrong_leave w _ D _ rfl rfl rfl rfl ?_ (by omega) ?_ ?_ ?_ ?_ ?_
    · repeat' (first | with_reducible exact hK | with_reducible refine keep_set ?_ ?_)
      all_goals omega
    · repeat' (first | with_reducible exact HH.out.2.1 | with_reducible refine Blk.same ?_ ?_ | with_reducible refine Blk.other ?_ ?_ _)
      all_goals first | rfl | omega
    · repeat' (first | with_reducible exact HH.out.2.2.1 | with_reducible refine Blk.same ?_ ?_ | with_reducible refine Blk.other ?_ ?_ _)
      all_goals first | rfl | omega
    · repeat' (first | with_reducible exact HH.out.2.2.2.1 | with_reducible refine Blk.same ?_ ?_ | with_reducible refine Blk.other ?_ ?_ _)
      all_goals first | rfl | omega
    · repeat' (first | with_reducible exact HH.out.2.2.2.2 | with_reducible refine Blk.same ?_ ?_ | with_reducible refine Blk.other ?_ ?_ _)
      all_goals first | rfl | omega
    · repeat' (first | with_reducible exact HH.out.1 | with_reducible refine Below.setCell ?_ ?_ _)
      all_goals first | exact Nat.le_succ _ | exact Nat.le_add_right _ _ | (simp; omega)
  case stop =>
    rintro D c pre W _ _ h _
    exact h.elim

end Go.Proofs.YtoolanjbmbcaiaaGreatDoor
namespace Go.Proofs.YtoolanjbmbcaiaaGreatDoor
open Go.RowKit Bf

set_option maxRecDepth 100000 in
set_option maxHeartbeats 4000000 in
theorem balanceCheck0 (w : World) (hT : Tab w) : Calls Tryz.prog 109 #[.agg #[.slice none 0 0, .slice none 0 0, .slice none 0 0, .slice none 0 0, .slice none 0 0, .slice none 0 0, .slice none 0 0, .slice none 0 0]] w (Ret w (.int .i64 0)) := by
  have HT := Lib.hid hT
  clear hT
  go_enter Tryz.func109, Tryz.ntmps109
  go_wp2_with fail
  refine (Wrong0 _ (HT.out.below ((Below.refl w.heap.size w).alloc (Nat.le_refl _) _))).mono ?_
  rintro e w1 ⟨rfl, hb1⟩
  have HB1 := Lib.hid (((Below.refl w.heap.size w).alloc (Nat.le_refl _) _).trans (hb1.mono (by simp)))
  clear hb1
  go_wp2
  go_ret
  refine ⟨rfl, ?_⟩
  have hs := HB1.out.size
  repeat' (first | exact Below.refl _ _ | exact HB1.out | refine Below.alloc ?_ ?_ _ | refine Below.setCell ?_ ?_ _ | refine Below.drew ?_)
  all_goals first | (simp; done) | (simp; omega) | omega

theorem bools_info : (Tryz.prog.info? 239).map (fun i => (i.zero, i.size, i.bytes)) = some (some (.slice none 0 0), 1, 24) := by kernel_rfl
theorem make_graph0 (w : World) : (Instr.makeSlice 156 (.int .i64 0) (.int .i64 0)).run Tryz.prog w = .ok (.slice (some ⟨w.heap.size, 0, none⟩) 0 0) (w.alloc (.cells #[] 239)) := by
  have h := run_make_row' 156 239 (.slice none 0 0) 24 Tryz.underlying156 bools_info rfl .i64 .i64 0 (by omega) (by omega) w
  rw [made0] at h
  exact h

set_option maxRecDepth 100000 in
set_option maxHeartbeats 4000000 in
theorem graphOf0 (w : World) : Calls Tryz.prog 112 #[.agg #[.slice none 0 0, .slice none 0 0, .slice none 0 0, .slice none 0 0, .slice none 0 0, .slice none 0 0, .slice none 0 0, .slice none 0 0]] w fun e w' => e = .returned (.slice (some ⟨w.heap.size + 1, 0, none⟩) 0 0) ∧ (w.alloc (.cells #[.slice none 0 0, .slice none 0 0, .slice none 0 0, .slice none 0 0, .slice none 0 0, .slice none 0 0, .slice none 0 0, .slice none 0 0] 53)).alloc (.cells #[] 239) = w' := by
  have hmk := make_graph0
  go_enter Tryz.func112, Tryz.ntmps112
  go_wp2
  refine wp_loop_rounds 1 ?_
  rw [rounds_succ]
  go_wp2
  refine wp_loop_rounds 1 ?_
  rw [rounds_succ]
  go_wp2
  go_ret
  exact ⟨rfl, rfl⟩

set_option maxRecDepth 100000 in
set_option maxHeartbeats 4000000 in
theorem Cycle0 (w : World) (hT : Tab w) : Calls Tryz.prog 111 #[.agg #[.slice none 0 0, .slice none 0 0, .slice none 0 0, .slice none 0 0, .slice none 0 0, .slice none 0 0, .slice none 0 0, .slice none 0 0]] w (Ret w (.tuple #[.slice none 0 0, .bool false])) := by
  have hq : ∀ W : World, (binOp .neq 23 (.slice none 0 0) (.slice none 0 0)).run Tryz.prog W = .ok (.bool false) W := fun W => by kernel_rfl
  have HT := Lib.hid hT
  clear hT
  go_enter Tryz.func111, Tryz.ntmps111
  go_wp2_with fail
  refine (typesCheck0 _ (HT.out.below ((Below.refl w.heap.size w).alloc (Nat.le_refl _) _))).mono ?_
  rintro e w1 ⟨rfl, hb1⟩
  have HB1 := Lib.hid (((Below.refl w.heap.size w).alloc (Nat.le_refl _) _).trans (hb1.mono (by simp)))
  have K1 := Lib.hid ((Blk.new w [.slice none 0 0, .slice none 0 0, .slice none 0 0, .slice none 0 0, .slice none 0 0, .slice none 0 0, .slice none 0 0, .slice none 0 0] 53).below hb1 (by simp))
  have hy1 : w.heap.size < w1.heap.size := K1.out.lt
  clear hb1
  obtain ⟨q0, _⟩ := K1.out.at 0 _ rfl
  obtain ⟨q1, _⟩ := K1.out.at 1 _ rfl
  obtain ⟨q2, _⟩ := K1.out.at 2 _ rfl
  obtain ⟨q3, _⟩ := K1.out.at 3 _ rfl
  obtain ⟨q4, _⟩ := K1.out.at 4 _ rfl
  obtain ⟨q5, _⟩ := K1.out.at 5 _ rfl
  obtain ⟨q6, _⟩ := K1.out.at 6 _ rfl
  obtain ⟨q7, _⟩ := K1.out.at 7 _ rfl
  go_wp2_with (go_at_call 112; refine (graphOf0 _).mono ?_; rintro e w1 ⟨rfl, rfl⟩)
  refine wp_loop_rounds 1 ?_
  rw [rounds_succ]
  go_wp2
  refine bodyPost_ret (v := .tuple #[.slice none 0 0, .bool false]) (by simp [results, Tryz.results111, go_sem]) rfl ⟨rfl, ?_⟩
  have hs := HB1.out.size
  repeat' (first | exact Below.refl _ _ | exact HB1.out | refine Below.alloc ?_ ?_ _ | refine Below.setCell ?_ ?_ _ | refine Below.drew ?_)
  all_goals first | (simp; done) | (simp; omega) | omega

theorem levels_end (b : Nat) (p : Addr) (W : World) (tmps : Array Value) (h2 : tmps.getD 2 undef = .pointer (some ⟨b, 0, none⟩)) (h3 : tmps.getD 3 undef = .int .i64 0) (k : Blk W b [.slice (some p) 0 0] 23) :
    (results Tryz.f84 tmps).run Tryz.prog W = .ok (.tuple #[.slice (some p) 0 0, .int .i64 0]) W := by
  rw [Array.getD_eq_getD_getElem?] at h2 h3
  have r0 := (k.at 0 _ rfl).1
  simp [results, Tryz.results84, go_sem, h2, h3, r0]

set_option maxRecDepth 100000 in
set_option maxHeartbeats 4000000 in
theorem Levels0 (w : World) (hT : Tab w) : Calls Tryz.prog 84 #[.agg #[.slice none 0 0, .slice none 0 0, .slice none 0 0, .slice none 0 0, .slice none 0 0, .slice none 0 0, .slice none 0 0, .slice none 0 0]] w fun e w' => ∃ p, e = .returned (.tuple #[.slice (some p) 0 0, .int .i64 0]) ∧ Below w.heap.size w w' := by
  have hmk := make_int0
  have HT := Lib.hid hT
  clear hT
  go_enter Tryz.func84, Tryz.ntmps84
  go_wp2_with fail
  refine (typesCheck0 _ (HT.out.below (by
    repeat' (first | exact Below.refl _ _ | refine Below.alloc ?_ ?_ _ | refine Below.setCell ?_ ?_ _ | refine Below.drew ?_)
    all_goals first | (simp; done) | (simp; omega) | omega : Below w.heap.size w _))).mono ?_
  rintro e w1 ⟨rfl, hb1⟩
  have HB1 := Lib.hid (Below.trans (by
    repeat' (first | exact Below.refl _ _ | refine Below.alloc ?_ ?_ _ | refine Below.setCell ?_ ?_ _ | refine Below.drew ?_)
    all_goals first | (simp; done) | (simp; omega) | omega) (hb1.mono (by first | (simp; done) | (simp; omega))) : Below w.heap.size w w1)
  have K1 := Lib.hid (((Blk.new w [.slice none 0 0, .slice none 0 0, .slice none 0 0, .slice none 0 0, .slice none 0 0, .slice none 0 0, .slice none 0 0, .slice none 0 0] 53).alloc _).below hb1 (by simp; omega))
  have C1 : Hid (Blk w1 (w.heap.size + 1) [.slice none 0 0] 23) := by
    have := Blk.new (w.alloc (.cells #[.slice none 0 0, .slice none 0 0, .slice none 0 0, .slice none 0 0, .slice none 0 0, .slice none 0 0, .slice none 0 0, .slice none 0 0] 53)) [.slice none 0 0] 23
    rw [World.size_alloc] at this
    exact this.below hb1 (by simp)
  have hy1 : w.heap.size < w1.heap.size := K1.out.lt
  clear hb1
  obtain ⟨q0, _⟩ := K1.out.at 0 _ rfl
  obtain ⟨q1, _⟩ := K1.out.at 1 _ rfl
  obtain ⟨q2, _⟩ := K1.out.at 2 _ rfl
  obtain ⟨q3, _⟩ := K1.out.at 3 _ rfl
  obtain ⟨q4, _⟩ := K1.out.at 4 _ rfl
  obtain ⟨q5, _⟩ := K1.out.at 5 _ rfl
  obtain ⟨q6, _⟩ := K1.out.at 6 _ rfl
  obtain ⟨q7, _⟩ := K1.out.at 7 _ rfl
  go_wp2_with fail
  refine (Cycle0 _ (HT.out.below HB1.out)).mono ?_
  rintro e w2 ⟨rfl, hb2⟩
  have HB2 := Lib.hid (HB1.out.trans (hb2.mono HB1.out.size))
  have K2 := Lib.hid (K1.out.below hb2 hy1)
  have C2 := Lib.hid (C1.out.below hb2 C1.out.lt)
  have hy2 : w.heap.size < w2.heap.size := K2.out.lt
  have hz2 : w.heap.size + 1 < w2.heap.size := C2.out.lt
  clear hb2 q0 q1 q2 q3 q4 q5 q6 q7
  obtain ⟨q0, _⟩ := K2.out.at 0 _ rfl
  obtain ⟨q1, _⟩ := K2.out.at 1 _ rfl
  obtain ⟨q2, _⟩ := K2.out.at 2 _ rfl
  obtain ⟨q3, _⟩ := K2.out.at 3 _ rfl
  obtain ⟨q4, _⟩ := K2.out.at 4 _ rfl
  obtain ⟨q5, _⟩ := K2.out.at 5 _ rfl
  obtain ⟨q6, _⟩ := K2.out.at 6 _ rfl
  obtain ⟨q7, _⟩ := K2.out.at 7 _ rfl
  obtain ⟨c0, d0⟩ := C2.out.at 0 _ rfl
  have ss : (w2.setCell ⟨w.heap.size + 1, 0, none⟩ (.slice (some ⟨w2.heap.size + 1 + 1, 0, none⟩) 0 0)).cell? ⟨w.heap.size + 1, 0, none⟩ = some (.slice (some ⟨w2.heap.size + 1 + 1, 0, none⟩) 0 0) := World.cell?_setCell_same' _ _ _ (by rw [c0]; rfl)
  have sd : ∀ o1 o2 o3 o4 o5, ((((((w2.setCell ⟨w.heap.size + 1, 0, none⟩ (.slice (some ⟨w2.heap.size + 1 + 1, 0, none⟩) 0 0)).alloc o1).alloc o2).alloc o3).alloc o4).alloc o5).cell? ⟨w.heap.size + 1, 0, none⟩ = some (.slice (some ⟨w2.heap.size + 1 + 1, 0, none⟩) 0 0) := fun o1 o2 o3 o4 o5 => by
    iterate 5 rw [World.cell?_alloc_lt _ _ _ (by simp [World.setCell]; omega)]
    exact ss
  have sf : ∀ o1 o2 o3 o4 o5, ((((((w2.setCell ⟨w.heap.size + 1, 0, none⟩ (.slice (some ⟨w2.heap.size + 1 + 1, 0, none⟩) 0 0)).alloc o1).alloc o2).alloc o3).alloc o4).alloc o5).frozen? ⟨w.heap.size + 1, 0, none⟩ = false := fun o1 o2 o3 o4 o5 => by
    exact ((((((C2.out.set 0 _).alloc o1).alloc o2).alloc o3).alloc o4).alloc o5).at 0 _ rfl |>.2
  have n1 : ¬ w.heap.size + 1 = w2.heap.size := by omega
  have n2 : ¬ w.heap.size + 1 = w2.heap.size + 1 := by omega
  have n3 : ¬ w.heap.size + 1 = w2.heap.size + 1 + 1 := by omega
  have n4 : ¬ w.heap.size + 1 = w2.heap.size + 1 + 1 + 1 := by omega
  go_wp2_with (go_at_call 112; refine (graphOf0 _).mono ?_; rintro e w1 ⟨rfl, rfl⟩)
  refine wp_loop_rounds 2 ?_
  rw [rounds_succ]
  go_wp2
  refine wp_loop_rounds 1 ?_
  rw [rounds_succ]
  go_wp2
  rw [rounds_succ]
  go_wp2
  refine wp_loop_rounds 1 ?_
  rw [rounds_succ]
  go_wp2
  refine bodyPost_ret (levels_end (w.heap.size + 1) _ _ _ rfl rfl (((((((C2.out.set 0 _).alloc _).alloc _).alloc _).alloc _).alloc _).set 0 _)) rfl ⟨_, rfl, ?_⟩
  have hs := HB2.out.size
  repeat' (first | exact HB2.out | refine Below.alloc ?_ ?_ _ | refine Below.setCell ?_ ?_ _)
  all_goals first | exact Nat.le_succ _ | (simp [World.setCell]; omega)

set_option maxRecDepth 100000 in
set_option maxHeartbeats 4000000 in
theorem Loop0 (w : World) (hT : Tab w) : Calls Tryz.prog 160 #[.agg #[.slice none 0 0, .slice none 0 0, .slice none 0 0, .slice none 0 0, .slice none 0 0, .slice none 0 0, .slice none 0 0, .slice none 0 0]] w (Ret w (.tuple #[.int .i64 0, .int .i64 0, .slice none 0 0, .bool false, .int .i64 0])) := by
  have hnot : ∀ (x : Bool) (w : World), (Op.unary .not (.bool x)).run Tryz.prog w = .ok (.bool (!x)) w := fun _ _ => rfl
  have hmm := @run_makeMap Tryz.prog
  have HT := Lib.hid hT
  clear hT
  go_enter Tryz.func160, Tryz.ntmps160
  go_wp2_with fail
  refine wp_scope_straight ?_
  go_wp2_with fail
  refine (typesCheck0 _ (HT.out.below ((Below.refl w.heap.size w).alloc (Nat.le_refl _) _))).mono ?_
  rintro e w1 ⟨rfl, hb1⟩
  have HB1 := Lib.hid (((Below.refl w.heap.size w).alloc (Nat.le_refl _) _).trans (hb1.mono (by simp)))
  have K1 := Lib.hid ((Blk.new w [.slice none 0 0, .slice none 0 0, .slice none 0 0, .slice none 0 0, .slice none 0 0, .slice none 0 0, .slice none 0 0, .slice none 0 0] 53).below hb1 (by simp))
  have hy1 : w.heap.size < w1.heap.size := K1.out.lt
  clear hb1
  obtain ⟨q0, _⟩ := K1.out.at 0 _ rfl
  obtain ⟨q1, _⟩ := K1.out.at 1 _ rfl
  obtain ⟨q2, _⟩ := K1.out.at 2 _ rfl
  obtain ⟨q3, _⟩ := K1.out.at 3 _ rfl
  obtain ⟨q4, _⟩ := K1.out.at 4 _ rfl
  obtain ⟨q5, _⟩ := K1.out.at 5 _ rfl
  obtain ⟨q6, _⟩ := K1.out.at 6 _ rfl
  obtain ⟨q7, _⟩ := K1.out.at 7 _ rfl
  go_wp2_with fail
  refine (All0 _).mono ?_
  rintro e w2 ⟨v, rfl, hb2⟩
  have HB2 := Lib.hid (HB1.out.trans (hb2.mono HB1.out.size))
  have K2 := Lib.hid (K1.out.below hb2 hy1)
  have hy2 : w.heap.size < w2.heap.size := K2.out.lt
  clear hb2 q0 q1 q2 q3 q4 q5 q6 q7
  obtain ⟨q0, _⟩ := K2.out.at 0 _ rfl
  obtain ⟨q1, _⟩ := K2.out.at 1 _ rfl
  obtain ⟨q2, _⟩ := K2.out.at 2 _ rfl
  obtain ⟨q3, _⟩ := K2.out.at 3 _ rfl
  obtain ⟨q4, _⟩ := K2.out.at 4 _ rfl
  obtain ⟨q5, _⟩ := K2.out.at 5 _ rfl
  obtain ⟨q6, _⟩ := K2.out.at 6 _ rfl
  obtain ⟨q7, _⟩ := K2.out.at 7 _ rfl
  go_wp2
  refine wp_label ?_
  go_wp2
  refine wp_loop_rounds 1 ?_
  rw [rounds_succ]
  go_wp2
  refine bodyPost_ret (v := .tuple #[.int .i64 0, .int .i64 0, .slice none 0 0, .bool false, .int .i64 0]) (by simp [results, Tryz.results160, go_sem]) rfl ⟨rfl, ?_⟩
  have hs := HB2.out.size
  repeat' (first | exact Below.refl _ _ | exact HB2.out | refine Below.alloc ?_ ?_ _ | refine Below.setCell ?_ ?_ _ | refine Below.drew ?_)
  all_goals first | (simp; done) | (simp; omega) | omega

set_option maxRecDepth 100000 in
set_option maxHeartbeats 4000000 in
theorem levelsCheck0 (w : World) (hT : Tab w) : Calls Tryz.prog 110 #[.agg #[.slice none 0 0, .slice none 0 0, .slice none 0 0, .slice none 0 0, .slice none 0 0, .slice none 0 0, .slice none 0 0, .slice none 0 0]] w (Ret w (.int .i64 0)) := by
  have HT := Lib.hid hT
  clear hT
  go_enter Tryz.func110, Tryz.ntmps110
  go_wp2_with fail
  refine (Levels0 _ (HT.out.below ((Below.refl w.heap.size w).alloc (Nat.le_refl _) _))).mono ?_
  rintro e w1 ⟨p, rfl, hb1⟩
  have HB1 := Lib.hid (((Below.refl w.heap.size w).alloc (Nat.le_refl _) _).trans (hb1.mono (by simp)))
  have K1 := Lib.hid ((Blk.new w [.slice none 0 0, .slice none 0 0, .slice none 0 0, .slice none 0 0, .slice none 0 0, .slice none 0 0, .slice none 0 0, .slice none 0 0] 53).below hb1 (by simp))
  have hy1 : w.heap.size < w1.heap.size := K1.out.lt
  clear hb1
  obtain ⟨q0, _⟩ := K1.out.at 0 _ rfl
  obtain ⟨q1, _⟩ := K1.out.at 1 _ rfl
  obtain ⟨q2, _⟩ := K1.out.at 2 _ rfl
  obtain ⟨q3, _⟩ := K1.out.at 3 _ rfl
  obtain ⟨q4, _⟩ := K1.out.at 4 _ rfl
  obtain ⟨q5, _⟩ := K1.out.at 5 _ rfl
  obtain ⟨q6, _⟩ := K1.out.at 6 _ rfl
  obtain ⟨q7, _⟩ := K1.out.at 7 _ rfl
  go_wp2_with fail
  refine (Loop0 _ (HT.out.below HB1.out)).mono ?_
  rintro e w2 ⟨rfl, hb2⟩
  have HB2 := Lib.hid (HB1.out.trans (hb2.mono HB1.out.size))
  clear hb2
  go_wp2
  go_ret
  exact ⟨rfl, HB2.out⟩
end Go.Proofs.YtoolanjbmbcaiaaGreatDoor
namespace Go.Proofs.YtoolanjbmbcaiaaGreatDoor
open Go.RowKit Bf

set_option maxRecDepth 100000 in
set_option maxHeartbeats 4000000 in
theorem complete0 (w : World) (hT : Tab w) : Calls Tryz.prog 83 #[.agg #[.slice none 0 0, .slice none 0 0, .slice none 0 0, .slice none 0 0, .slice none 0 0, .slice none 0 0, .slice none 0 0, .slice none 0 0]] w (Ret w (.int .i64 0)) := by
  have hnot : ∀ (x : Bool) (w : World), (Op.unary .not (.bool x)).run Tryz.prog w = .ok (.bool (!x)) w := fun _ _ => rfl
  have HT := Lib.hid hT
  clear hT
  go_enter Tryz.func83, Tryz.ntmps83
  go_wp2_with fail
  have HB0 := Lib.hid ((Below.refl w.heap.size w).alloc (Nat.le_refl _) (.cells #[.slice none 0 0, .slice none 0 0, .slice none 0 0, .slice none 0 0, .slice none 0 0, .slice none 0 0, .slice none 0 0, .slice none 0 0] 53))
  have K0 := Lib.hid (Blk.new w [.slice none 0 0, .slice none 0 0, .slice none 0 0, .slice none 0 0, .slice none 0 0, .slice none 0 0, .slice none 0 0, .slice none 0 0] 53)
  obtain ⟨q0, _⟩ := K0.out.at 0 _ rfl
  obtain ⟨q1, _⟩ := K0.out.at 1 _ rfl
  obtain ⟨q2, _⟩ := K0.out.at 2 _ rfl
  obtain ⟨q3, _⟩ := K0.out.at 3 _ rfl
  obtain ⟨q4, _⟩ := K0.out.at 4 _ rfl
  obtain ⟨q5, _⟩ := K0.out.at 5 _ rfl
  obtain ⟨q6, _⟩ := K0.out.at 6 _ rfl
  obtain ⟨q7, _⟩ := K0.out.at 7 _ rfl
  refine (namesResolve0 _ (HT.out.below HB0.out)).mono ?_
  rintro e w1 ⟨rfl, hb⟩
  have HB1 := Lib.hid (HB0.out.trans (hb.mono (by have := HB0.out.size; first | exact this | (simp; omega))))
  have K1 := Lib.hid (K0.out.below hb (K0.out.lt))
  have hy1 : w.heap.size < w1.heap.size := K1.out.lt
  clear hb q0 q1 q2 q3 q4 q5 q6 q7
  obtain ⟨q0, _⟩ := K1.out.at 0 _ rfl
  obtain ⟨q1, _⟩ := K1.out.at 1 _ rfl
  obtain ⟨q2, _⟩ := K1.out.at 2 _ rfl
  obtain ⟨q3, _⟩ := K1.out.at 3 _ rfl
  obtain ⟨q4, _⟩ := K1.out.at 4 _ rfl
  obtain ⟨q5, _⟩ := K1.out.at 5 _ rfl
  obtain ⟨q6, _⟩ := K1.out.at 6 _ rfl
  obtain ⟨q7, _⟩ := K1.out.at 7 _ rfl
  go_wp2_with fail
  refine (same0 _).mono ?_
  rintro e w2 ⟨rfl, hb⟩
  have HB2 := Lib.hid ((HB1.out.alloc (by have := HB1.out.size; first | exact this | (simp; omega)) (.cells #[.slice none 0 0, .slice none 0 0, .slice none 0 0, .slice none 0 0, .slice none 0 0, .slice none 0 0, .slice none 0 0, .slice none 0 0] 53)).trans (hb.mono (by have := HB1.out.size; first | exact this | (simp; omega))))
  have K2 := Lib.hid ((K1.out.alloc (.cells #[.slice none 0 0, .slice none 0 0, .slice none 0 0, .slice none 0 0, .slice none 0 0, .slice none 0 0, .slice none 0 0, .slice none 0 0] 53)).below hb ((K1.out.alloc (.cells #[.slice none 0 0, .slice none 0 0, .slice none 0 0, .slice none 0 0, .slice none 0 0, .slice none 0 0, .slice none 0 0, .slice none 0 0] 53)).lt))
  have hy2 : w.heap.size < w2.heap.size := K2.out.lt
  clear hb q0 q1 q2 q3 q4 q5 q6 q7
  obtain ⟨q0, _⟩ := K2.out.at 0 _ rfl
  obtain ⟨q1, _⟩ := K2.out.at 1 _ rfl
  obtain ⟨q2, _⟩ := K2.out.at 2 _ rfl
  obtain ⟨q3, _⟩ := K2.out.at 3 _ rfl
  obtain ⟨q4, _⟩ := K2.out.at 4 _ rfl
  obtain ⟨q5, _⟩ := K2.out.at 5 _ rfl
  obtain ⟨q6, _⟩ := K2.out.at 6 _ rfl
  obtain ⟨q7, _⟩ := K2.out.at 7 _ rfl
  go_wp2_with fail
  refine (typesCheck0 _ (HT.out.below HB2.out)).mono ?_
  rintro e w3 ⟨rfl, hb⟩
  have HB3 := Lib.hid (HB2.out.trans (hb.mono (by have := HB2.out.size; first | exact this | (simp; omega))))
  have K3 := Lib.hid (K2.out.below hb (K2.out.lt))
  have hy3 : w.heap.size < w3.heap.size := K3.out.lt
  clear hb q0 q1 q2 q3 q4 q5 q6 q7
  obtain ⟨q0, _⟩ := K3.out.at 0 _ rfl
  obtain ⟨q1, _⟩ := K3.out.at 1 _ rfl
  obtain ⟨q2, _⟩ := K3.out.at 2 _ rfl
  obtain ⟨q3, _⟩ := K3.out.at 3 _ rfl
  obtain ⟨q4, _⟩ := K3.out.at 4 _ rfl
  obtain ⟨q5, _⟩ := K3.out.at 5 _ rfl
  obtain ⟨q6, _⟩ := K3.out.at 6 _ rfl
  obtain ⟨q7, _⟩ := K3.out.at 7 _ rfl
  go_wp2_with fail
  refine (Config0 _).mono ?_
  rintro e w4 ⟨p, rfl, hb⟩
  have HB4 := Lib.hid (HB3.out.trans (hb.mono (by have := HB3.out.size; first | exact this | (simp; omega))))
  have K4 := Lib.hid (K3.out.below hb (K3.out.lt))
  have hy4 : w.heap.size < w4.heap.size := K4.out.lt
  clear hb q0 q1 q2 q3 q4 q5 q6 q7
  obtain ⟨q0, _⟩ := K4.out.at 0 _ rfl
  obtain ⟨q1, _⟩ := K4.out.at 1 _ rfl
  obtain ⟨q2, _⟩ := K4.out.at 2 _ rfl
  obtain ⟨q3, _⟩ := K4.out.at 3 _ rfl
  obtain ⟨q4, _⟩ := K4.out.at 4 _ rfl
  obtain ⟨q5, _⟩ := K4.out.at 5 _ rfl
  obtain ⟨q6, _⟩ := K4.out.at 6 _ rfl
  obtain ⟨q7, _⟩ := K4.out.at 7 _ rfl
  go_wp2_with fail
  refine (Hole0 _).mono ?_
  rintro e w5 ⟨rfl, hb⟩
  have HB5 := Lib.hid (HB4.out.trans (hb.mono (by have := HB4.out.size; first | exact this | (simp; omega))))
  have K5 := Lib.hid (K4.out.below hb (K4.out.lt))
  have hy5 : w.heap.size < w5.heap.size := K5.out.lt
  clear hb q0 q1 q2 q3 q4 q5 q6 q7
  obtain ⟨q0, _⟩ := K5.out.at 0 _ rfl
  obtain ⟨q1, _⟩ := K5.out.at 1 _ rfl
  obtain ⟨q2, _⟩ := K5.out.at 2 _ rfl
  obtain ⟨q3, _⟩ := K5.out.at 3 _ rfl
  obtain ⟨q4, _⟩ := K5.out.at 4 _ rfl
  obtain ⟨q5, _⟩ := K5.out.at 5 _ rfl
  obtain ⟨q6, _⟩ := K5.out.at 6 _ rfl
  obtain ⟨q7, _⟩ := K5.out.at 7 _ rfl
  go_wp2_with fail
  refine (balanceCheck0 _ (HT.out.below (HB5.out.alloc (by have := HB5.out.size; first | exact this | (simp; omega)) (.cells #[.int .i64 0, .int .i64 0, .int .i64 0, .slice none 0 0, .int .i64 0] 150)))).mono ?_
  rintro e w6 ⟨rfl, hb⟩
  have HB6 := Lib.hid ((HB5.out.alloc (by have := HB5.out.size; first | exact this | (simp; omega)) (.cells #[.int .i64 0, .int .i64 0, .int .i64 0, .slice none 0 0, .int .i64 0] 150)).trans (hb.mono (by have := HB5.out.size; first | exact this | (simp; omega))))
  have K6 := Lib.hid ((K5.out.alloc (.cells #[.int .i64 0, .int .i64 0, .int .i64 0, .slice none 0 0, .int .i64 0] 150)).below hb ((K5.out.alloc (.cells #[.int .i64 0, .int .i64 0, .int .i64 0, .slice none 0 0, .int .i64 0] 150)).lt))
  have hy6 : w.heap.size < w6.heap.size := K6.out.lt
  clear hb q0 q1 q2 q3 q4 q5 q6 q7
  obtain ⟨q0, _⟩ := K6.out.at 0 _ rfl
  obtain ⟨q1, _⟩ := K6.out.at 1 _ rfl
  obtain ⟨q2, _⟩ := K6.out.at 2 _ rfl
  obtain ⟨q3, _⟩ := K6.out.at 3 _ rfl
  obtain ⟨q4, _⟩ := K6.out.at 4 _ rfl
  obtain ⟨q5, _⟩ := K6.out.at 5 _ rfl
  obtain ⟨q6, _⟩ := K6.out.at 6 _ rfl
  obtain ⟨q7, _⟩ := K6.out.at 7 _ rfl
  go_wp2_with fail
  refine (levelsCheck0 _ (HT.out.below HB6.out)).mono ?_
  rintro e w7 ⟨rfl, hb⟩
  have HB7 := Lib.hid (HB6.out.trans (hb.mono (by have := HB6.out.size; first | exact this | (simp; omega))))
  have K7 := Lib.hid (K6.out.below hb (K6.out.lt))
  have hy7 : w.heap.size < w7.heap.size := K7.out.lt
  clear hb q0 q1 q2 q3 q4 q5 q6 q7
  obtain ⟨q0, _⟩ := K7.out.at 0 _ rfl
  obtain ⟨q1, _⟩ := K7.out.at 1 _ rfl
  obtain ⟨q2, _⟩ := K7.out.at 2 _ rfl
  obtain ⟨q3, _⟩ := K7.out.at 3 _ rfl
  obtain ⟨q4, _⟩ := K7.out.at 4 _ rfl
  obtain ⟨q5, _⟩ := K7.out.at 5 _ rfl
  obtain ⟨q6, _⟩ := K7.out.at 6 _ rfl
  obtain ⟨q7, _⟩ := K7.out.at 7 _ rfl
  go_wp2_with fail
  go_ret
  exact ⟨rfl, HB7.out⟩

end Go.Proofs.YtoolanjbmbcaiaaGreatDoor
namespace Go.Proofs.YtoolanjbmbcaiaaGreatDoor
open Go.RowKit Bf

theorem lower_end (b : Nat) (p : Addr) (W : World) (tmps : Array Value) (h2 : tmps.getD 2 undef = .pointer (some ⟨b, 0, none⟩)) (h3 : tmps.getD 3 undef = .int .i64 0) (k : Blk W b [.slice none 0 0, .slice none 0 0, .slice none 0 0, .slice none 0 0, .slice none 0 0, .slice none 0 0, .slice none 0 0, .slice none 0 0, .slice (some p) 0 0, .slice none 0 0] 56) :
    (results Tryz.f55 tmps).run Tryz.prog W = .ok (.tuple #[.agg #[.slice none 0 0, .slice none 0 0, .slice none 0 0, .slice none 0 0, .slice none 0 0, .slice none 0 0, .slice none 0 0, .slice none 0 0, .slice (some p) 0 0, .slice none 0 0], .int .i64 0]) W := by
  rw [Array.getD_eq_getD_getElem?] at h2 h3
  have r0 := (k.at 0 _ rfl).1
  have r1 := (k.at 1 _ rfl).1
  have r2 := (k.at 2 _ rfl).1
  have r3 := (k.at 3 _ rfl).1
  have r4 := (k.at 4 _ rfl).1
  have r5 := (k.at 5 _ rfl).1
  have r6 := (k.at 6 _ rfl).1
  have r7 := (k.at 7 _ rfl).1
  have r8 := (k.at 8 _ rfl).1
  have r9 := (k.at 9 _ rfl).1
  simp [results, Tryz.results55, go_sem, h2, h3, r0, r1, r2, r3, r4, r5, r6, r7, r8, r9]

set_option maxRecDepth 100000 in
set_option maxHeartbeats 4000000 in
theorem Lower0 (w : World) (hT : Tab w) : Calls Tryz.prog 55 #[.agg #[.slice none 0 0, .slice none 0 0, .slice none 0 0, .slice none 0 0, .slice none 0 0, .slice none 0 0, .slice none 0 0, .slice none 0 0]] w fun e w' => ∃ p, e = .returned (.tuple #[.agg #[.slice none 0 0, .slice none 0 0, .slice none 0 0, .slice none 0 0, .slice none 0 0, .slice none 0 0, .slice none 0 0, .slice none 0 0, .slice (some p) 0 0, .slice none 0 0], .int .i64 0]) ∧ Below w.heap.size w w' := by
  have HT := Lib.hid hT
  clear hT
  go_enter Tryz.func55, Tryz.ntmps55
  go_wp2_with fail
  have HB0 := Lib.hid (((Below.refl w.heap.size w).alloc (Nat.le_refl _) (.cells #[.slice none 0 0, .slice none 0 0, .slice none 0 0, .slice none 0 0, .slice none 0 0, .slice none 0 0, .slice none 0 0, .slice none 0 0] 53)).alloc (by simp) (.cells #[.slice none 0 0, .slice none 0 0, .slice none 0 0, .slice none 0 0, .slice none 0 0, .slice none 0 0, .slice none 0 0, .slice none 0 0, .slice none 0 0, .slice none 0 0] 56))
  have K0 := Lib.hid ((Blk.new w [.slice none 0 0, .slice none 0 0, .slice none 0 0, .slice none 0 0, .slice none 0 0, .slice none 0 0, .slice none 0 0, .slice none 0 0] 53).alloc (.cells #[.slice none 0 0, .slice none 0 0, .slice none 0 0, .slice none 0 0, .slice none 0 0, .slice none 0 0, .slice none 0 0, .slice none 0 0, .slice none 0 0, .slice none 0 0] 56))
  have C0 : Hid (Blk ((w.alloc (.cells #[.slice none 0 0, .slice none 0 0, .slice none 0 0, .slice none 0 0, .slice none 0 0, .slice none 0 0, .slice none 0 0, .slice none 0 0] 53)).alloc (.cells #[.slice none 0 0, .slice none 0 0, .slice none 0 0, .slice none 0 0, .slice none 0 0, .slice none 0 0, .slice none 0 0, .slice none 0 0, .slice none 0 0, .slice none 0 0] 56)) (w.heap.size + 1) [.slice none 0 0, .slice none 0 0, .slice none 0 0, .slice none 0 0, .slice none 0 0, .slice none 0 0, .slice none 0 0, .slice none 0 0, .slice none 0 0, .slice none 0 0] 56) := by
    have := Blk.new (w.alloc (.cells #[.slice none 0 0, .slice none 0 0, .slice none 0 0, .slice none 0 0, .slice none 0 0, .slice none 0 0, .slice none 0 0, .slice none 0 0] 53)) [.slice none 0 0, .slice none 0 0, .slice none 0 0, .slice none 0 0, .slice none 0 0, .slice none 0 0, .slice none 0 0, .slice none 0 0, .slice none 0 0, .slice none 0 0] 56
    rwa [World.size_alloc] at this
  obtain ⟨q0, _⟩ := K0.out.at 0 _ rfl
  obtain ⟨q1, _⟩ := K0.out.at 1 _ rfl
  obtain ⟨q2, _⟩ := K0.out.at 2 _ rfl
  obtain ⟨q3, _⟩ := K0.out.at 3 _ rfl
  obtain ⟨q4, _⟩ := K0.out.at 4 _ rfl
  obtain ⟨q5, _⟩ := K0.out.at 5 _ rfl
  obtain ⟨q6, _⟩ := K0.out.at 6 _ rfl
  obtain ⟨q7, _⟩ := K0.out.at 7 _ rfl
  refine (complete0 _ (HT.out.below HB0.out)).mono ?_
  rintro e w1 ⟨rfl, hb⟩
  have HB1 := Lib.hid (HB0.out.trans (hb.mono (by have := HB0.out.size; first | exact this | (simp; omega))))
  have K1 := Lib.hid (K0.out.below hb (K0.out.lt))
  have hy1 : w.heap.size < w1.heap.size := K1.out.lt
  have C1 := Lib.hid (C0.out.below hb C0.out.lt)
  clear hb q0 q1 q2 q3 q4 q5 q6 q7
  obtain ⟨q0, _⟩ := K1.out.at 0 _ rfl
  obtain ⟨q1, _⟩ := K1.out.at 1 _ rfl
  obtain ⟨q2, _⟩ := K1.out.at 2 _ rfl
  obtain ⟨q3, _⟩ := K1.out.at 3 _ rfl
  obtain ⟨q4, _⟩ := K1.out.at 4 _ rfl
  obtain ⟨q5, _⟩ := K1.out.at 5 _ rfl
  obtain ⟨q6, _⟩ := K1.out.at 6 _ rfl
  obtain ⟨q7, _⟩ := K1.out.at 7 _ rfl
  go_wp2_with fail
  refine (Levels0 _ (HT.out.below HB1.out)).mono ?_
  rintro e w2 ⟨p, rfl, hb⟩
  have HB2 := Lib.hid (HB1.out.trans (hb.mono (by have := HB1.out.size; first | exact this | (simp; omega))))
  have K2 := Lib.hid (K1.out.below hb (K1.out.lt))
  have hy2 : w.heap.size < w2.heap.size := K2.out.lt
  have C2 := Lib.hid (C1.out.below hb C1.out.lt)
  clear hb q0 q1 q2 q3 q4 q5 q6 q7
  obtain ⟨q0, _⟩ := K2.out.at 0 _ rfl
  obtain ⟨q1, _⟩ := K2.out.at 1 _ rfl
  obtain ⟨q2, _⟩ := K2.out.at 2 _ rfl
  obtain ⟨q3, _⟩ := K2.out.at 3 _ rfl
  obtain ⟨q4, _⟩ := K2.out.at 4 _ rfl
  obtain ⟨q5, _⟩ := K2.out.at 5 _ rfl
  obtain ⟨q6, _⟩ := K2.out.at 6 _ rfl
  obtain ⟨q7, _⟩ := K2.out.at 7 _ rfl
  obtain ⟨c0, d0⟩ := C2.out.at 0 _ rfl
  obtain ⟨c1, d1⟩ := C2.out.at 1 _ rfl
  obtain ⟨c2, d2⟩ := C2.out.at 2 _ rfl
  obtain ⟨c3, d3⟩ := C2.out.at 3 _ rfl
  obtain ⟨c4, d4⟩ := C2.out.at 4 _ rfl
  obtain ⟨c5, d5⟩ := C2.out.at 5 _ rfl
  obtain ⟨c6, d6⟩ := C2.out.at 6 _ rfl
  obtain ⟨c7, d7⟩ := C2.out.at 7 _ rfl
  obtain ⟨c8, d8⟩ := C2.out.at 8 _ rfl
  obtain ⟨c9, d9⟩ := C2.out.at 9 _ rfl
  have n1 : ¬ w.heap.size = w.heap.size + 1 := by omega
  have n2 : ¬ w.heap.size + 1 = w.heap.size := by omega
  have kA : Hid (Blk ((((((((((w2.setCell ⟨w.heap.size + 1, 0, none⟩ (.slice none 0 0)).setCell ⟨w.heap.size + 1, 1, none⟩ (.slice none 0 0)).setCell ⟨w.heap.size + 1, 2, none⟩ (.slice none 0 0)).setCell ⟨w.heap.size + 1, 3, none⟩ (.slice none 0 0)).setCell ⟨w.heap.size + 1, 4, none⟩ (.slice none 0 0)).setCell ⟨w.heap.size + 1, 5, none⟩ (.slice none 0 0)).setCell ⟨w.heap.size + 1, 6, none⟩ (.slice none 0 0)).setCell ⟨w.heap.size + 1, 7, none⟩ (.slice none 0 0)).setCell ⟨w.heap.size + 1, 8, none⟩ (.slice (some p) 0 0)).setCell ⟨w.heap.size + 1, 9, none⟩ (.slice none 0 0)) (w.heap.size + 1) [.slice none 0 0, .slice none 0 0, .slice none 0 0, .slice none 0 0, .slice none 0 0, .slice none 0 0, .slice none 0 0, .slice none 0 0, .slice (some p) 0 0, .slice none 0 0] 56) := by
    show Blk _ _ _ _
    refine Blk.same ?_ rfl
    refine Blk.set (l := [.slice none 0 0, .slice none 0 0, .slice none 0 0, .slice none 0 0, .slice none 0 0, .slice none 0 0, .slice none 0 0, .slice none 0 0, .slice none 0 0, .slice none 0 0]) ?_ 8 (.slice (some p) 0 0)
    repeat' (first | with_reducible exact C2.out | with_reducible refine Blk.same ?_ ?_)
    all_goals rfl
  have kB : Hid (Blk ((((((((((w2.setCell ⟨w.heap.size + 1, 0, none⟩ (.slice none 0 0)).setCell ⟨w.heap.size + 1, 1, none⟩ (.slice none 0 0)).setCell ⟨w.heap.size + 1, 2, none⟩ (.slice none 0 0)).setCell ⟨w.heap.size + 1, 3, none⟩ (.slice none 0 0)).setCell ⟨w.heap.size + 1, 4, none⟩ (.slice none 0 0)).setCell ⟨w.heap.size + 1, 5, none⟩ (.slice none 0 0)).setCell ⟨w.heap.size + 1, 6, none⟩ (.slice none 0 0)).setCell ⟨w.heap.size + 1, 7, none⟩ (.slice none 0 0)).setCell ⟨w.heap.size + 1, 8, none⟩ (.slice (some p) 0 0)).setCell ⟨w.heap.size + 1, 9, none⟩ (.slice none 0 0)) w.heap.size [.slice none 0 0, .slice none 0 0, .slice none 0 0, .slice none 0 0, .slice none 0 0, .slice none 0 0, .slice none 0 0, .slice none 0 0] 53) := by
    show Blk _ _ _ _
    repeat' (first | with_reducible exact K2.out | with_reducible refine Blk.other ?_ ?_ _)
    all_goals omega
  have kC : Hid (Below w.heap.size w ((((((((((w2.setCell ⟨w.heap.size + 1, 0, none⟩ (.slice none 0 0)).setCell ⟨w.heap.size + 1, 1, none⟩ (.slice none 0 0)).setCell ⟨w.heap.size + 1, 2, none⟩ (.slice none 0 0)).setCell ⟨w.heap.size + 1, 3, none⟩ (.slice none 0 0)).setCell ⟨w.heap.size + 1, 4, none⟩ (.slice none 0 0)).setCell ⟨w.heap.size + 1, 5, none⟩ (.slice none 0 0)).setCell ⟨w.heap.size + 1, 6, none⟩ (.slice none 0 0)).setCell ⟨w.heap.size + 1, 7, none⟩ (.slice none 0 0)).setCell ⟨w.heap.size + 1, 8, none⟩ (.slice (some p) 0 0)).setCell ⟨w.heap.size + 1, 9, none⟩ (.slice none 0 0))) := by
    show Below _ _ _
    repeat' (first | with_reducible exact HB2.out | with_reducible refine Below.setCell ?_ ?_ _)
    all_goals exact Nat.le_succ _
  go_wp2
  generalize ((((((((((w2.setCell ⟨w.heap.size + 1, 0, none⟩ (.slice none 0 0)).setCell ⟨w.heap.size + 1, 1, none⟩ (.slice none 0 0)).setCell ⟨w.heap.size + 1, 2, none⟩ (.slice none 0 0)).setCell ⟨w.heap.size + 1, 3, none⟩ (.slice none 0 0)).setCell ⟨w.heap.size + 1, 4, none⟩ (.slice none 0 0)).setCell ⟨w.heap.size + 1, 5, none⟩ (.slice none 0 0)).setCell ⟨w.heap.size + 1, 6, none⟩ (.slice none 0 0)).setCell ⟨w.heap.size + 1, 7, none⟩ (.slice none 0 0)).setCell ⟨w.heap.size + 1, 8, none⟩ (.slice (some p) 0 0)).setCell ⟨w.heap.size + 1, 9, none⟩ (.slice none 0 0)) = W3 at *
  clear q0 q1 q2 q3 q4 q5 q6 q7 c0 d0 c1 d1 c2 d2 c3 d3 c4 d4 c5 d5 c6 d6 c7 d7 c8 d8 c9 d9
  obtain ⟨q0, _⟩ := kB.out.at 0 _ rfl
  obtain ⟨q1, _⟩ := kB.out.at 1 _ rfl
  obtain ⟨q2, _⟩ := kB.out.at 2 _ rfl
  obtain ⟨q3, _⟩ := kB.out.at 3 _ rfl
  obtain ⟨q4, _⟩ := kB.out.at 4 _ rfl
  obtain ⟨q5, _⟩ := kB.out.at 5 _ rfl
  obtain ⟨q6, _⟩ := kB.out.at 6 _ rfl
  obtain ⟨q7, _⟩ := kB.out.at 7 _ rfl
  obtain ⟨c0, d0⟩ := kA.out.at 0 _ rfl
  obtain ⟨c1, d1⟩ := kA.out.at 1 _ rfl
  obtain ⟨c2, d2⟩ := kA.out.at 2 _ rfl
  obtain ⟨c3, d3⟩ := kA.out.at 3 _ rfl
  obtain ⟨c4, d4⟩ := kA.out.at 4 _ rfl
  obtain ⟨c5, d5⟩ := kA.out.at 5 _ rfl
  obtain ⟨c6, d6⟩ := kA.out.at 6 _ rfl
  obtain ⟨c7, d7⟩ := kA.out.at 7 _ rfl
  obtain ⟨c8, d8⟩ := kA.out.at 8 _ rfl
  obtain ⟨c9, d9⟩ := kA.out.at 9 _ rfl
  refine wp_loop_rounds 1 ?_
  rw [rounds_succ]
  go_wp2
  refine bodyPost_ret (lower_end (w.heap.size + 1) p _ _ rfl rfl ?_) rfl ⟨_, rfl, ?_⟩
  · repeat' (first | with_reducible exact kA.out | with_reducible refine Blk.same ?_ ?_)
    all_goals first | rfl
  · repeat' (first | with_reducible exact kC.out | with_reducible refine Below.setCell ?_ ?_ _)
    all_goals exact Nat.le_succ _

set_option maxRecDepth 100000 in
set_option maxHeartbeats 4000000 in
theorem recSame0 (p : Addr) (w : World) : Calls Tryz.prog 56 #[.agg #[.slice none 0 0, .slice none 0 0, .slice none 0 0, .slice none 0 0, .slice none 0 0, .slice none 0 0, .slice none 0 0, .slice none 0 0, .slice (some p) 0 0, .slice none 0 0], .agg #[.slice none 0 0, .slice none 0 0, .slice none 0 0, .slice none 0 0, .slice none 0 0, .slice none 0 0, .slice none 0 0, .slice none 0 0, .slice none 0 0, .slice none 0 0]] w (Ret w (.bool true)) := by
  go_enter Tryz.func56, Tryz.ntmps56
  go_wp2_with fail
  refine (same0 _).mono ?_
  rintro e w1 ⟨rfl, hb⟩
  have HB1 := Lib.hid (Below.trans (by
    repeat' (first | exact Below.refl _ _ | refine Below.alloc ?_ ?_ _ | refine Below.setCell ?_ ?_ _ | refine Below.drew ?_)
    all_goals first | (simp; done) | (simp; omega) | omega) (hb.mono (by first | (simp; done) | (simp; omega))) : Below w.heap.size w w1)
  have K1 := Lib.hid (((Blk.new w [.slice none 0 0, .slice none 0 0, .slice none 0 0, .slice none 0 0, .slice none 0 0, .slice none 0 0, .slice none 0 0, .slice none 0 0, .slice (some p) 0 0, .slice none 0 0] 56).alloc _).below hb (by simp; omega))
  have C1 : Hid (Blk w1 (w.heap.size + 1) [.slice none 0 0, .slice none 0 0, .slice none 0 0, .slice none 0 0, .slice none 0 0, .slice none 0 0, .slice none 0 0, .slice none 0 0, .slice none 0 0, .slice none 0 0] 56) := by
    have := Blk.new (w.alloc (.cells #[.slice none 0 0, .slice none 0 0, .slice none 0 0, .slice none 0 0, .slice none 0 0, .slice none 0 0, .slice none 0 0, .slice none 0 0, .slice (some p) 0 0, .slice none 0 0] 56)) [.slice none 0 0, .slice none 0 0, .slice none 0 0, .slice none 0 0, .slice none 0 0, .slice none 0 0, .slice none 0 0, .slice none 0 0, .slice none 0 0, .slice none 0 0] 56
    rw [World.size_alloc] at this
    exact this.below hb (by simp)
  clear hb
  obtain ⟨q8, _⟩ := K1.out.at 8 _ rfl
  obtain ⟨q9, _⟩ := K1.out.at 9 _ rfl
  obtain ⟨c8, _⟩ := C1.out.at 8 _ rfl
  obtain ⟨c9, _⟩ := C1.out.at 9 _ rfl
  go_wp2_with (first | (go_at_call 87; refine (equalInt _ _ _ _ _).mono ?_; rintro e w1 ⟨rfl, rfl⟩) | (go_at_call 88; refine (equalfCodes _ _).mono ?_; rintro e w1 ⟨rfl, rfl⟩))
  go_ret
  exact ⟨rfl, HB1.out⟩

set_option maxRecDepth 100000 in
set_option maxHeartbeats 4000000 in
theorem recCheck0 (w : World) (hT : Tab w) : Calls Tryz.prog 27 #[.agg #[.slice none 0 0, .slice none 0 0, .slice none 0 0, .slice none 0 0, .slice none 0 0, .slice none 0 0, .slice none 0 0, .slice none 0 0, .slice none 0 0, .slice none 0 0]] w (Ret w (.int .i64 0)) := by
  have hnot : ∀ (x : Bool) (w : World), (Op.unary .not (.bool x)).run Tryz.prog w = .ok (.bool (!x)) w := fun _ _ => rfl
  have HT := Lib.hid hT
  clear hT
  go_enter Tryz.func27, Tryz.ntmps27
  go_wp2_with fail
  refine (Lower0 _ (HT.out.below ((Below.refl w.heap.size w).alloc (Nat.le_refl _) _))).mono ?_
  rintro e w1 ⟨p, rfl, hb⟩
  have HB1 := Lib.hid (((Below.refl w.heap.size w).alloc (Nat.le_refl _) _).trans (hb.mono (by simp)))
  have K1 := Lib.hid ((Blk.new w [.slice none 0 0, .slice none 0 0, .slice none 0 0, .slice none 0 0, .slice none 0 0, .slice none 0 0, .slice none 0 0, .slice none 0 0, .slice none 0 0, .slice none 0 0] 56).below hb (by simp))
  have hy1 : w.heap.size < w1.heap.size := K1.out.lt
  clear hb
  obtain ⟨q0, _⟩ := K1.out.at 0 _ rfl
  obtain ⟨q1, _⟩ := K1.out.at 1 _ rfl
  obtain ⟨q2, _⟩ := K1.out.at 2 _ rfl
  obtain ⟨q3, _⟩ := K1.out.at 3 _ rfl
  obtain ⟨q4, _⟩ := K1.out.at 4 _ rfl
  obtain ⟨q5, _⟩ := K1.out.at 5 _ rfl
  obtain ⟨q6, _⟩ := K1.out.at 6 _ rfl
  obtain ⟨q7, _⟩ := K1.out.at 7 _ rfl
  obtain ⟨q8, _⟩ := K1.out.at 8 _ rfl
  obtain ⟨q9, _⟩ := K1.out.at 9 _ rfl
  go_wp2_with fail
  refine (recSame0 _ _).mono ?_
  rintro e w2 ⟨rfl, hb⟩
  have HB2 := Lib.hid ((HB1.out.alloc HB1.out.size _).trans (hb.mono (by have := HB1.out.size; simp; omega)))
  clear hb
  go_wp2
  go_ret
  exact ⟨rfl, HB2.out⟩

set_option maxRecDepth 100000 in
set_option maxHeartbeats 4000000 in
theorem Needs0 (a : List Value) (ha : ∃ x y z, a = [x, y, z]) (w : World) (hT : Tab w) : Calls Tryz.prog 15 #[.agg #[.slice none 0 0, .slice none 0 0, .slice none 0 0, .slice none 0 0, .slice none 0 0, .slice none 0 0, .slice none 0 0, .slice none 0 0, .slice none 0 0, .slice none 0 0], .int .i64 0, .int .i64 0, .int .i64 0, .int .i64 0, .agg a.toArray] w (Ret w (.tuple #[.slice none 0 0, .slice none 0 0, .int .i64 0, .int .i64 1])) := by
  have hnot : ∀ (x : Bool) (w : World), (Op.unary .not (.bool x)).run Tryz.prog w = .ok (.bool (!x)) w := fun _ _ => rfl
  obtain ⟨x, y, z, rfl⟩ := ha
  have HT := Lib.hid hT
  clear hT
  go_enter Tryz.func15, Tryz.ntmps15
  go_wp2_with fail
  refine (recCheck0 _ (HT.out.below (by
    repeat' (first | exact Below.refl _ _ | refine Below.alloc ?_ ?_ _ | refine Below.setCell ?_ ?_ _ | refine Below.drew ?_)
    all_goals first | (simp; done) | (simp; omega) | omega : Below w.heap.size w _))).mono ?_
  rintro e w1 ⟨rfl, hb⟩
  have HB1 := Lib.hid (Below.trans (by
    repeat' (first | exact Below.refl _ _ | refine Below.alloc ?_ ?_ _ | refine Below.setCell ?_ ?_ _ | refine Below.drew ?_)
    all_goals first | (simp; done) | (simp; omega) | omega) (hb.mono (by first | (simp; done) | (simp; omega))) : Below w.heap.size w w1)
  have K1 := Lib.hid (((Blk.new w [.slice none 0 0, .slice none 0 0, .slice none 0 0, .slice none 0 0, .slice none 0 0, .slice none 0 0, .slice none 0 0, .slice none 0 0, .slice none 0 0, .slice none 0 0] 56).alloc _).below hb (by simp; omega))
  clear hb
  obtain ⟨q0, _⟩ := K1.out.at 0 _ rfl
  obtain ⟨q1, _⟩ := K1.out.at 1 _ rfl
  obtain ⟨q2, _⟩ := K1.out.at 2 _ rfl
  obtain ⟨q3, _⟩ := K1.out.at 3 _ rfl
  obtain ⟨q4, _⟩ := K1.out.at 4 _ rfl
  obtain ⟨q5, _⟩ := K1.out.at 5 _ rfl
  obtain ⟨q6, _⟩ := K1.out.at 6 _ rfl
  obtain ⟨q7, _⟩ := K1.out.at 7 _ rfl
  obtain ⟨q8, _⟩ := K1.out.at 8 _ rfl
  obtain ⟨q9, _⟩ := K1.out.at 9 _ rfl
  go_wp2_with fail
  refine (between_any _ _ _ _).mono ?_
  rintro e w2 ⟨rfl, rfl⟩
  rw [show btw 0 0 (-1) = false by decide]
  go_wp2
  refine bodyPost_ret (v := .tuple #[.slice none 0 0, .slice none 0 0, .int .i64 0, .int .i64 1]) (by simp [results, Tryz.results15, go_sem]) rfl ⟨rfl, HB1.out⟩

end Go.Proofs.YtoolanjbmbcaiaaGreatDoor
namespace Go.Proofs.YtoolanjbmbcaiaaGreatDoor
open Go.RowKit Bf

def e0 : ByteArray := ⟨#[]⟩
/-- The sample program. -/
def sampleL : List In := [⟨1, 0, 2, false, e0, e0⟩, ⟨2, 6, 0, false, e0, e0⟩, ⟨1, -1, 3, false, e0, e0⟩, ⟨2, 4, 0, false, e0, e0⟩, ⟨3, 5, 2, false, bs 4, bs 1⟩, ⟨4, 1, 1, false, bs 5, bs 2⟩, ⟨6, 1, 3, false, e0, e0⟩, ⟨7, 0, 0, false, e0, e0⟩, ⟨3, 0, 0, false, bs 1, bs 1⟩, ⟨5, 3, 0, false, bs 7, bs 1⟩, ⟨7, 0, 0, false, e0, e0⟩]

/-- An instruction's cells. -/
def inC (x : In) : List Value := [.int .i64 x.op, .int .i64 x.A, .int .i64 x.B, .bool x.neg, .string x.n, .string x.d]
theorem flat_at : ∀ (l : List In) (i : Nat) (x : In), l[i]? = some x → ∀ j, j < 6 → (l.flatMap inC)[6 * i + j]? = (inC x)[j]?
  | [], i, x, h, _, _ => by simp at h
  | y :: ys, 0, x, h, j, hj => by
    simp at h
    subst h
    rw [List.flatMap_cons, List.getElem?_append_left (by simpa [inC] using hj)]
    simp
  | y :: ys, i + 1, x, h, j, hj => by
    simp at h
    rw [List.flatMap_cons, List.getElem?_append_right (by simp [inC]; omega), show 6 * (i + 1) + j - (inC y).length = 6 * i + j by simp [inC]; omega]
    exact flat_at ys i x h j hj
theorem codeAt_new (w : World) (l : List In) (t : TypeId) : CodeAt (w.alloc (.cells (l.flatMap inC).toArray t)) w.heap.size 0 l := by
  refine ⟨by simp, fun i x hx => ?_⟩
  have h := fun j (hj : j < 6) v (hv : (inC x)[j]? = some v) => ((Blk.new w (l.flatMap inC) t).at (6 * i + j) v ((flat_at l i x hx j hj).trans hv)).1
  simp only [Nat.zero_add]
  exact ⟨h 0 (by omega) _ rfl, h 1 (by omega) _ rfl, h 2 (by omega) _ rfl, h 3 (by omega) _ rfl, h 4 (by omega) _ rfl, h 5 (by omega) _ rfl⟩

set_option maxRecDepth 100000 in
set_option maxHeartbeats 4000000 in
theorem sample_any (w : World) (hT : Tab w) : Calls Tryz.prog 14 #[] w fun e w' => ∃ v, e = .returned v ∧ CodeV w' v sampleL ∧ Below w.heap.size w w' := by
  have HR := Lib.hid (fun (n d : Nat) W (hW : Tab W) (hn : n < 9223372036854775808) (hd : d < 9223372036854775808) (h0 : 0 < d) => ratio_ok n d W hn hd h0 hW)
  have HT := Lib.hid hT
  clear hT
  go_enter Tryz.func14, Tryz.ntmps14
  go_wp2_with fail
  refine (HR.out 4 1 _ HT.out (by omega) (by omega) (by omega)).mono ?_
  rw [show lowR false 4 1 = ⟨false, 4, 1⟩ by simp [lowR]]
  rintro e w1 ⟨rfl, hb⟩
  have HB1 := Lib.hid hb
  clear hb
  simp only [ratV]
  go_wp2_with fail
  refine (HR.out 5 2 _ (HT.out.below HB1.out) (by omega) (by omega) (by omega)).mono ?_
  rw [show lowR false 5 2 = ⟨false, 5, 2⟩ by simp [lowR]]
  rintro e w2 ⟨rfl, hb⟩
  have HB2 := Lib.hid (HB1.out.trans (hb.mono HB1.out.size))
  clear hb
  simp only [ratV]
  go_wp2_with fail
  refine (HR.out 1 1 _ (HT.out.below HB2.out) (by omega) (by omega) (by omega)).mono ?_
  rw [show lowR false 1 1 = ⟨false, 1, 1⟩ by simp [lowR]]
  rintro e w3 ⟨rfl, hb⟩
  have HB3 := Lib.hid (HB2.out.trans (hb.mono HB2.out.size))
  clear hb
  simp only [ratV]
  go_wp2_with fail
  refine (HR.out 7 1 _ (HT.out.below HB3.out) (by omega) (by omega) (by omega)).mono ?_
  rw [show lowR false 7 1 = ⟨false, 7, 1⟩ by simp [lowR]]
  rintro e w4 ⟨rfl, hb⟩
  have HB4 := Lib.hid (HB3.out.trans (hb.mono HB3.out.size))
  clear hb
  simp only [ratV]
  go_wp2_with fail
  go_ret
  refine ⟨_, rfl, ?_, HB4.out.alloc HB4.out.size _⟩
  refine ⟨_, _, rfl, .inr ⟨_, _, rfl, ?_⟩⟩
  exact codeAt_new w4 sampleL 40
end Go.Proofs.YtoolanjbmbcaiaaGreatDoor
namespace Go.Proofs.YtoolanjbmbcaiaaGreatDoor
open Go.RowKit Bf

theorem lim_big {n : Nat} (h : n < 100) : n < LIM := Nat.lt_of_lt_of_le h (Nat.le_trans (show 100 ≤ 256 ^ 1 by decide) (Nat.pow_le_pow_right (show 0 < 256 by decide) (show 1 ≤ 256 by decide)))
theorem ratS_small (n d : Nat) (hn : n < 100) (hd : d < 100) (h0 : 0 < d) (hg : Nat.gcd n d = 1) : RatS false (bs n) (bs d) :=
  RatS.of (r := ⟨false, n, d⟩) ⟨lim_big hn, lim_big hd, h0, hg, fun h => by cases h⟩
theorem alz_small (n d : Nat) (hn : n < 100) (hd : d < 100) (h0 : 0 < d) (hg : Nat.gcd n d = 1) : alz false (bs n) (bs d) = true := alz_iff.2 ⟨ratS_small n d hn hd h0 hg, rfl⟩
theorem bs_nonempty (n : Nat) (h : 0 < n) : (bs n).toList.isEmpty = false := by
  rw [bs_isEmpty]; simp; omega

theorem sample_ok : progOk sampleL := by
  refine ⟨by simp [sampleL], by simp [sampleL], fun i x hx => ?_, fun x hx => ?_⟩
  · have a1 := alz_small 4 1 (by omega) (by omega) (by omega) rfl
    have a2 := alz_small 5 2 (by omega) (by omega) (by omega) rfl
    have a3 := alz_small 1 1 (by omega) (by omega) (by omega) rfl
    have a4 := alz_small 7 1 (by omega) (by omega) (by omega) rfl
    have b1 := bs_nonempty 4 (by omega)
    have b2 := bs_nonempty 1 (by omega)
    have hi : i < 11 := by
      have := (List.getElem?_eq_some_iff.1 hx).1
      simpa [sampleL] using this
    have hc : i = 0 ∨ i = 1 ∨ i = 2 ∨ i = 3 ∨ i = 4 ∨ i = 5 ∨ i = 6 ∨ i = 7 ∨ i = 8 ∨ i = 9 ∨ i = 10 := by omega
    rcases hc with rfl | rfl | rfl | rfl | rfl | rfl | rfl | rfl | rfl | rfl | rfl <;>
      (simp [sampleL] at hx; subst hx; simp [vldB, sampleL, btw, a1, a2, a3, a4, b1, b2])
  · simp [sampleL] at hx
    subst hx
    simp

theorem mulR_small {a b : Rt} (h1 : a.n * b.n < 100) (h2 : a.d * b.d < 100) : mulR a b = some (lowR (a.neg != b.neg) (a.n * b.n) (a.d * b.d)) := if_pos ⟨lim_big h1, lim_big h2⟩
theorem run_sample1 : runE sampleL [2, 3] false (bs 6) (bs 1) 20 = (0, { bat := ⟨false, 3, 2⟩, next := 8, fuel := 14, lead := 2, uses := [⟨1, ⟨false, 15, 4⟩, false, true⟩], works := [(1, 6)] }) := by
  rw [runE_run sample_ok (ratS_small 6 1 (by omega) (by omega) (by omega) rfl) (by simp)]
  rw [bv_bs, bv_bs]
  have m1 : divR ⟨false, 6, 1⟩ ⟨false, 4, 1⟩ = some ⟨false, 3, 2⟩ := by unfold divR invR; rw [mulR_small (by simp) (by simp)]; simp [lowR]
  have m2 : mulR ⟨false, 5, 2⟩ ⟨false, 3, 2⟩ = some ⟨false, 15, 4⟩ := by rw [mulR_small (by simp) (by simp)]; simp [lowR]
  have m3 : ceilR ⟨false, 3, 2⟩ = some 2 := by simp [ceilR]
  simp [runI_succ, sampleL, begin0, stepI, holdsI, In.rt, bv_bs, m1, m2, m3]

theorem m6 : divR ⟨false, 6, 1⟩ ⟨false, 1, 1⟩ = some ⟨false, 6, 1⟩ := by unfold divR invR; rw [mulR_small (by simp) (by simp)]; simp [lowR]
theorem m42 : mulR ⟨false, 7, 1⟩ ⟨false, 6, 1⟩ = some ⟨false, 42, 1⟩ := by rw [mulR_small (by simp) (by simp)]; simp [lowR]
theorem run_sample2 : runE sampleL [2, 2] false (bs 6) (bs 1) 20 = (0, { bat := ⟨false, 6, 1⟩, next := 11, fuel := 14, lead := 0, uses := [⟨3, ⟨false, 42, 1⟩, true, false⟩], works := [] }) := by
  rw [runE_run sample_ok (ratS_small 6 1 (by omega) (by omega) (by omega) rfl) (by simp), bv_bs, bv_bs]
  simp [runI_succ, sampleL, begin0, stepI, holdsI, In.rt, bv_bs, m6, m42]
theorem run_sample3 : runE sampleL [1, 9] false (bs 6) (bs 1) 5 = (0, { bat := ⟨false, 6, 1⟩, next := 11, fuel := 0, lead := 0, uses := [⟨3, ⟨false, 42, 1⟩, true, false⟩], works := [] }) := by
  rw [runE_run sample_ok (ratS_small 6 1 (by omega) (by omega) (by omega) rfl) (by simp), bv_bs, bv_bs]
  simp [runI_succ, sampleL, begin0, stepI, holdsI, In.rt, bv_bs, m6, m42]
theorem run_sample4 : (runE sampleL [1, 9] false (bs 6) (bs 1) 4).1 = 170 := by
  rw [runE_run sample_ok (ratS_small 6 1 (by omega) (by omega) (by omega) rfl) (by simp), bv_bs, bv_bs]
  simp [runI_succ, sampleL, begin0, stepI, holdsI, In.rt, bv_bs, m6, m42]

/-- A program of one instruction. -/
def oneL (op : Int) : List In := [⟨op, 0, 0, false, e0, e0⟩]
theorem one_ok {op : Int} (h : op = 7 ∨ op = 8) : progOk (oneL op) := by
  refine ⟨by simp [oneL], by simp [oneL], fun i x hx => ?_, fun x hx => ?_⟩
  · have hi : i < 1 := by
      have := (List.getElem?_eq_some_iff.1 hx).1
      simpa [oneL] using this
    obtain rfl : i = 0 := by omega
    simp [oneL] at hx
    subst hx
    rcases h with rfl | rfl <;> simp [vldB]
  · simp [oneL] at hx
    subst hx
    exact h
theorem rat1 : RatS false (bs 1) (bs 1) := ratS_small 1 1 (by omega) (by omega) (by omega) rfl
theorem run_done : runE (oneL 7) [0] false (bs 1) (bs 1) 1 = (0, { bat := ⟨false, 0, 1⟩, next := 1, fuel := 0, lead := 0, uses := [], works := [] }) := by
  rw [runE_run (one_ok (.inl rfl)) rat1 (by simp), bv_bs]
  simp [runI_succ, oneL, begin0, stepI]
theorem run_none : runE (oneL 7) [] false (bs 1) (bs 1) 1 = (1, begin0 0) := runE_arg (one_ok (.inl rfl)) rat1 (.inr (.inl rfl))
theorem run_fail : (runE (oneL 8) [0] false (bs 1) (bs 1) 1).1 = 160 := by
  rw [runE_run (one_ok (.inr rfl)) rat1 (by simp), bv_bs]
  simp [runI_succ, oneL, begin0, stepI]
theorem check_sample : progE sampleL = 0 := progE_ok sample_ok
theorem check_none : progE [] = 171 := progE_no (fun h => by have := h.1; simp at this)
end Go.Proofs.YtoolanjbmbcaiaaGreatDoor
namespace Go.Proofs.YtoolanjbmbcaiaaGreatDoor
open Go.RowKit Bf

theorem ints_new (w : World) (c : List Int) (t : TypeId) : IntsV (w.alloc (.cells (c.map (Value.int .i64)).toArray t)) (.slice (some ⟨w.heap.size, 0, none⟩) c.length c.length) c := by
  refine ⟨_, _, rfl, Nat.le_refl _, fun i z hz => ⟨_, _, rfl, by simp, ?_⟩⟩
  rw [Nat.zero_add]
  exact ((Blk.new w (c.map (Value.int .i64)) t).at i _ (by simp [hz])).1
theorem uses_new (w : World) (us : List UseR) (t : TypeId) : UsesV (w.alloc (.cells (us.flatMap useV).toArray t)) (.slice (some ⟨w.heap.size, 0, none⟩) us.length us.length) us := by
  refine ⟨_, _, rfl, fun i u hu => ⟨_, _, rfl, by simp, fun j x hx => ?_⟩⟩
  have hj : j < 6 := by have := (List.getElem?_eq_some_iff.1 hx).1; simpa [useV] using this
  rw [Nat.zero_add]
  exact ((Blk.new w (us.flatMap useV) t).at (i * 6 + j) _ ((flat_get useV 6 (fun _ => rfl) us i j u hu hj).trans hx)).1
theorem works_new (w : World) (us : List (Int × Int)) (t : TypeId) : WorksV (w.alloc (.cells (us.flatMap workV).toArray t)) (.slice (some ⟨w.heap.size, 0, none⟩) us.length us.length) us := by
  refine ⟨_, _, rfl, fun i u hu => ⟨_, _, rfl, by simp, fun j x hx => ?_⟩⟩
  have hj : j < 2 := by have := (List.getElem?_eq_some_iff.1 hx).1; simpa [workV] using this
  rw [Nat.zero_add]
  exact ((Blk.new w (us.flatMap workV) t).at (i * 2 + j) _ ((flat_get workV 2 (fun _ => rfl) us i j u hu hj).trans hx)).1
theorem code_new (w : World) (l : List In) (t : TypeId) : CodeV (w.alloc (.cells (l.flatMap inC).toArray t)) (.slice (some ⟨w.heap.size, 0, none⟩) l.length l.length) l :=
  ⟨_, _, rfl, .inr ⟨_, _, rfl, codeAt_new w l t⟩⟩
theorem ints_nil (w : World) : IntsV w (.slice none 0 0) [] := ⟨_, _, rfl, Nat.le_refl _, fun i z hz => by simp at hz⟩
theorem code_nil (w : World) : CodeV w (.slice none 0 0) [] := ⟨_, _, rfl, .inl rfl⟩
end Go.Proofs.YtoolanjbmbcaiaaGreatDoor
namespace Go.Proofs.YtoolanjbmbcaiaaGreatDoor
open Go.RowKit Bf

set_option maxRecDepth 100000 in
set_option maxHeartbeats 8000000 in
theorem sane_any (w : World) (hT : Tab w) : Calls Tryz.prog 4 #[] w (Ret w (.bool true)) := by
  have hnot : ∀ (x : Bool) (w : World), (Op.unary .not (.bool x)).run Tryz.prog w = .ok (.bool (!x)) w := fun _ _ => rfl
  have HR := Lib.hid (fun (n d : Nat) W (hW : Tab W) (hn : n < 9223372036854775808) (hd : d < 9223372036854775808) (h0 : 0 < d) => ratio_ok n d W hn hd h0 hW)
  have HT := Lib.hid hT
  clear hT
  go_enter Tryz.func4, Tryz.ntmps4
  go_wp2_with fail
  refine (HR.out 1 1 _ (HT.out.below (Below.refl w.heap.size w)) (by omega) (by omega) (by omega)).mono ?_
  rw [show lowR false 1 1 = ⟨false, 1, 1⟩ by simp [lowR]]
  rintro e w1 ⟨rfl, hb⟩
  have HB_1 := Lib.hid ((Below.refl w.heap.size w).trans (hb.mono (Below.refl w.heap.size w).size))
  clear hb
  simp only [ratV]
  have K : Hid (Blk (w1.alloc (.cells #[.bool false, .string (bs 1), .string (bs 1)] 25)) (w1.heap.size) [.bool false, .string (bs 1), .string (bs 1)] 25) := by
    have := Blk.new w1 [.bool false, .string (bs 1), .string (bs 1)] 25
    exact this
  have D : Hid (CodeV ((w1.alloc (.cells #[.bool false, .string (bs 1), .string (bs 1)] 25)).alloc (.cells #[.int .i64 7, .int .i64 0, .int .i64 0, .bool false, .string ⟨#[]⟩, .string ⟨#[]⟩] 40)) (.slice (some ⟨w1.heap.size + 1, 0, none⟩) 1 1) (oneL 7)) := by
    have := code_new (w1.alloc (.cells #[.bool false, .string (bs 1), .string (bs 1)] 25)) (oneL 7) 40
    rwa [World.size_alloc] at this
  go_wp2_with fail
  refine (sample_any _ (HT.out.below ((HB_1.out.alloc HB_1.out.size (.cells #[.bool false, .string (bs 1), .string (bs 1)] 25)).alloc (HB_1.out.alloc HB_1.out.size (.cells #[.bool false, .string (bs 1), .string (bs 1)] 25)).size (.cells #[.int .i64 7, .int .i64 0, .int .i64 0, .bool false, .string ⟨#[]⟩, .string ⟨#[]⟩] 40)))).mono ?_
  rintro e w2 ⟨s0, rfl, hv, hb⟩
  have HB_2 := Lib.hid (((HB_1.out.alloc HB_1.out.size (.cells #[.bool false, .string (bs 1), .string (bs 1)] 25)).alloc (HB_1.out.alloc HB_1.out.size (.cells #[.bool false, .string (bs 1), .string (bs 1)] 25)).size (.cells #[.int .i64 7, .int .i64 0, .int .i64 0, .bool false, .string ⟨#[]⟩, .string ⟨#[]⟩] 40)).trans (hb.mono ((HB_1.out.alloc HB_1.out.size (.cells #[.bool false, .string (bs 1), .string (bs 1)] 25)).alloc (HB_1.out.alloc HB_1.out.size (.cells #[.bool false, .string (bs 1), .string (bs 1)] 25)).size (.cells #[.int .i64 7, .int .i64 0, .int .i64 0, .bool false, .string ⟨#[]⟩, .string ⟨#[]⟩] 40)).size))
  have K_2 := Lib.hid ((K.out.alloc (.cells #[.int .i64 7, .int .i64 0, .int .i64 0, .bool false, .string ⟨#[]⟩, .string ⟨#[]⟩] 40)).below hb (K.out.alloc (.cells #[.int .i64 7, .int .i64 0, .int .i64 0, .bool false, .string ⟨#[]⟩, .string ⟨#[]⟩] 40)).lt)
  have D_2 := Lib.hid (D.out.below hb)
  have Cs0_2 := Lib.hid hv
  clear hv
  clear hb
  have I : Hid (IntsV (w2.alloc (.cells #[.int .i64 2, .int .i64 3] 3)) (.slice (some ⟨w2.heap.size, 0, none⟩) 2 2) [2, 3]) := by
    have := ints_new w2 [2, 3] 3
    exact this
  go_wp2_with fail
  refine (HR.out 6 1 _ (HT.out.below (HB_2.out.alloc HB_2.out.size (.cells #[.int .i64 2, .int .i64 3] 3))) (by omega) (by omega) (by omega)).mono ?_
  rw [show lowR false 6 1 = ⟨false, 6, 1⟩ by simp [lowR]]
  rintro e w3 ⟨rfl, hb⟩
  have HB_3 := Lib.hid ((HB_2.out.alloc HB_2.out.size (.cells #[.int .i64 2, .int .i64 3] 3)).trans (hb.mono (HB_2.out.alloc HB_2.out.size (.cells #[.int .i64 2, .int .i64 3] 3)).size))
  have K_3 := Lib.hid ((K_2.out.alloc (.cells #[.int .i64 2, .int .i64 3] 3)).below hb (K_2.out.alloc (.cells #[.int .i64 2, .int .i64 3] 3)).lt)
  have D_3 := Lib.hid ((D_2.out.below ((Below.refl _ _).alloc (Nat.le_refl _) (.cells #[.int .i64 2, .int .i64 3] 3))).below hb)
  have Cs0_3 := Lib.hid ((Cs0_2.out.below ((Below.refl _ _).alloc (Nat.le_refl _) (.cells #[.int .i64 2, .int .i64 3] 3))).below hb)
  have I_3 := Lib.hid (I.out.below hb)
  clear hb
  simp only [ratV]
  go_wp2_with fail
  refine (Run_any _ _ sampleL [2, 3] false (bs 6) (bs 1) 20 _ Cs0_3.out (by simp [sampleL]) I_3.out (by simp) (by omega) (HT.out.below HB_3.out)).mono ?_
  rw [run_sample1]
  rintro e w4 ⟨hb, hr⟩
  have HB_4 := Lib.hid (HB_3.out.trans (hb.mono HB_3.out.size))
  have K_4 := Lib.hid (K_3.out.below hb K_3.out.lt)
  have D_4 := Lib.hid (D_3.out.below hb)
  have Cs0_4 := Lib.hid (Cs0_3.out.below hb)
  have I_4 := Lib.hid (I_3.out.below hb)
  obtain ⟨ur0, vr0, rfl, hu, hw⟩ : ∃ uv wv, e = _ ∧ _ ∧ _ := hr.elim (fun h => h.2) (fun h => absurd rfl h.1)
  have Ur0_4 := Lib.hid (UsesV.of_owns hu)
  have Vr0_4 := Lib.hid (WorksV.of_owns hw)
  clear hr hu hw
  clear hb
  clear Cs0_4
  clear I_4
  go_wp2_with fail
  refine (sample_any _ (HT.out.below HB_4.out)).mono ?_
  rintro e w5 ⟨s1, rfl, hv, hb⟩
  have HB_5 := Lib.hid (HB_4.out.trans (hb.mono HB_4.out.size))
  have K_5 := Lib.hid (K_4.out.below hb K_4.out.lt)
  have D_5 := Lib.hid (D_4.out.below hb)
  have Ur0_5 := Lib.hid (Ur0_4.out.below hb)
  have Vr0_5 := Lib.hid (Vr0_4.out.below hb)
  have Cs1_5 := Lib.hid hv
  clear hv
  clear hb
  have I : Hid (IntsV (w5.alloc (.cells #[.int .i64 2, .int .i64 2] 3)) (.slice (some ⟨w5.heap.size, 0, none⟩) 2 2) [2, 2]) := by
    have := ints_new w5 [2, 2] 3
    exact this
  go_wp2_with fail
  refine (HR.out 6 1 _ (HT.out.below (HB_5.out.alloc HB_5.out.size (.cells #[.int .i64 2, .int .i64 2] 3))) (by omega) (by omega) (by omega)).mono ?_
  rw [show lowR false 6 1 = ⟨false, 6, 1⟩ by simp [lowR]]
  rintro e w6 ⟨rfl, hb⟩
  have HB_6 := Lib.hid ((HB_5.out.alloc HB_5.out.size (.cells #[.int .i64 2, .int .i64 2] 3)).trans (hb.mono (HB_5.out.alloc HB_5.out.size (.cells #[.int .i64 2, .int .i64 2] 3)).size))
  have K_6 := Lib.hid ((K_5.out.alloc (.cells #[.int .i64 2, .int .i64 2] 3)).below hb (K_5.out.alloc (.cells #[.int .i64 2, .int .i64 2] 3)).lt)
  have D_6 := Lib.hid ((D_5.out.below ((Below.refl _ _).alloc (Nat.le_refl _) (.cells #[.int .i64 2, .int .i64 2] 3))).below hb)
  have Ur0_6 := Lib.hid ((Ur0_5.out.below ((Below.refl _ _).alloc (Nat.le_refl _) (.cells #[.int .i64 2, .int .i64 2] 3))).below hb)
  have Vr0_6 := Lib.hid ((Vr0_5.out.below ((Below.refl _ _).alloc (Nat.le_refl _) (.cells #[.int .i64 2, .int .i64 2] 3))).below hb)
  have Cs1_6 := Lib.hid ((Cs1_5.out.below ((Below.refl _ _).alloc (Nat.le_refl _) (.cells #[.int .i64 2, .int .i64 2] 3))).below hb)
  have I_6 := Lib.hid (I.out.below hb)
  clear hb
  simp only [ratV]
  go_wp2_with fail
  refine (Run_any _ _ sampleL [2, 2] false (bs 6) (bs 1) 20 _ Cs1_6.out (by simp [sampleL]) I_6.out (by simp) (by omega) (HT.out.below HB_6.out)).mono ?_
  rw [run_sample2]
  rintro e w7 ⟨hb, hr⟩
  have HB_7 := Lib.hid (HB_6.out.trans (hb.mono HB_6.out.size))
  have K_7 := Lib.hid (K_6.out.below hb K_6.out.lt)
  have D_7 := Lib.hid (D_6.out.below hb)
  have Ur0_7 := Lib.hid (Ur0_6.out.below hb)
  have Vr0_7 := Lib.hid (Vr0_6.out.below hb)
  have Cs1_7 := Lib.hid (Cs1_6.out.below hb)
  have I_7 := Lib.hid (I_6.out.below hb)
  obtain ⟨ur1, vr1, rfl, hu, hw⟩ : ∃ uv wv, e = _ ∧ _ ∧ _ := hr.elim (fun h => h.2) (fun h => absurd rfl h.1)
  have Ur1_7 := Lib.hid (UsesV.of_owns hu)
  have Vr1_7 := Lib.hid (WorksV.of_owns hw)
  clear hr hu hw
  clear hb
  clear Cs1_7
  clear I_7
  go_wp2_with fail
  refine (sample_any _ (HT.out.below HB_7.out)).mono ?_
  rintro e w8 ⟨s2, rfl, hv, hb⟩
  have HB_8 := Lib.hid (HB_7.out.trans (hb.mono HB_7.out.size))
  have K_8 := Lib.hid (K_7.out.below hb K_7.out.lt)
  have D_8 := Lib.hid (D_7.out.below hb)
  have Ur0_8 := Lib.hid (Ur0_7.out.below hb)
  have Vr0_8 := Lib.hid (Vr0_7.out.below hb)
  have Ur1_8 := Lib.hid (Ur1_7.out.below hb)
  have Vr1_8 := Lib.hid (Vr1_7.out.below hb)
  have Cs2_8 := Lib.hid hv
  clear hv
  clear hb
  have I : Hid (IntsV (w8.alloc (.cells #[.int .i64 1, .int .i64 9] 3)) (.slice (some ⟨w8.heap.size, 0, none⟩) 2 2) [1, 9]) := by
    have := ints_new w8 [1, 9] 3
    exact this
  go_wp2_with fail
  refine (HR.out 6 1 _ (HT.out.below (HB_8.out.alloc HB_8.out.size (.cells #[.int .i64 1, .int .i64 9] 3))) (by omega) (by omega) (by omega)).mono ?_
  rw [show lowR false 6 1 = ⟨false, 6, 1⟩ by simp [lowR]]
  rintro e w9 ⟨rfl, hb⟩
  have HB_9 := Lib.hid ((HB_8.out.alloc HB_8.out.size (.cells #[.int .i64 1, .int .i64 9] 3)).trans (hb.mono (HB_8.out.alloc HB_8.out.size (.cells #[.int .i64 1, .int .i64 9] 3)).size))
  have K_9 := Lib.hid ((K_8.out.alloc (.cells #[.int .i64 1, .int .i64 9] 3)).below hb (K_8.out.alloc (.cells #[.int .i64 1, .int .i64 9] 3)).lt)
  have D_9 := Lib.hid ((D_8.out.below ((Below.refl _ _).alloc (Nat.le_refl _) (.cells #[.int .i64 1, .int .i64 9] 3))).below hb)
  have Ur0_9 := Lib.hid ((Ur0_8.out.below ((Below.refl _ _).alloc (Nat.le_refl _) (.cells #[.int .i64 1, .int .i64 9] 3))).below hb)
  have Vr0_9 := Lib.hid ((Vr0_8.out.below ((Below.refl _ _).alloc (Nat.le_refl _) (.cells #[.int .i64 1, .int .i64 9] 3))).below hb)
  have Ur1_9 := Lib.hid ((Ur1_8.out.below ((Below.refl _ _).alloc (Nat.le_refl _) (.cells #[.int .i64 1, .int .i64 9] 3))).below hb)
  have Vr1_9 := Lib.hid ((Vr1_8.out.below ((Below.refl _ _).alloc (Nat.le_refl _) (.cells #[.int .i64 1, .int .i64 9] 3))).below hb)
  have Cs2_9 := Lib.hid ((Cs2_8.out.below ((Below.refl _ _).alloc (Nat.le_refl _) (.cells #[.int .i64 1, .int .i64 9] 3))).below hb)
  have I_9 := Lib.hid (I.out.below hb)
  clear hb
  simp only [ratV]
  go_wp2_with fail
  refine (Run_any _ _ sampleL [1, 9] false (bs 6) (bs 1) 5 _ Cs2_9.out (by simp [sampleL]) I_9.out (by simp) (by omega) (HT.out.below HB_9.out)).mono ?_
  rw [run_sample3]
  rintro e w10 ⟨hb, hr⟩
  have HB_10 := Lib.hid (HB_9.out.trans (hb.mono HB_9.out.size))
  have K_10 := Lib.hid (K_9.out.below hb K_9.out.lt)
  have D_10 := Lib.hid (D_9.out.below hb)
  have Ur0_10 := Lib.hid (Ur0_9.out.below hb)
  have Vr0_10 := Lib.hid (Vr0_9.out.below hb)
  have Ur1_10 := Lib.hid (Ur1_9.out.below hb)
  have Vr1_10 := Lib.hid (Vr1_9.out.below hb)
  have Cs2_10 := Lib.hid (Cs2_9.out.below hb)
  have I_10 := Lib.hid (I_9.out.below hb)
  obtain ⟨ur2, vr2, rfl, hu, hw⟩ : ∃ uv wv, e = _ ∧ _ ∧ _ := hr.elim (fun h => h.2) (fun h => absurd rfl h.1)
  have Ur2_10 := Lib.hid (UsesV.of_owns hu)
  have Vr2_10 := Lib.hid (WorksV.of_owns hw)
  clear hr hu hw
  clear hb
  clear Cs2_10
  clear I_10
  go_wp2_with fail
  refine (sample_any _ (HT.out.below HB_10.out)).mono ?_
  rintro e w11 ⟨s3, rfl, hv, hb⟩
  have HB_11 := Lib.hid (HB_10.out.trans (hb.mono HB_10.out.size))
  have K_11 := Lib.hid (K_10.out.below hb K_10.out.lt)
  have D_11 := Lib.hid (D_10.out.below hb)
  have Ur0_11 := Lib.hid (Ur0_10.out.below hb)
  have Vr0_11 := Lib.hid (Vr0_10.out.below hb)
  have Ur1_11 := Lib.hid (Ur1_10.out.below hb)
  have Vr1_11 := Lib.hid (Vr1_10.out.below hb)
  have Ur2_11 := Lib.hid (Ur2_10.out.below hb)
  have Vr2_11 := Lib.hid (Vr2_10.out.below hb)
  have Cs3_11 := Lib.hid hv
  clear hv
  clear hb
  have I : Hid (IntsV (w11.alloc (.cells #[.int .i64 1, .int .i64 9] 3)) (.slice (some ⟨w11.heap.size, 0, none⟩) 2 2) [1, 9]) := by
    have := ints_new w11 [1, 9] 3
    exact this
  go_wp2_with fail
  refine (HR.out 6 1 _ (HT.out.below (HB_11.out.alloc HB_11.out.size (.cells #[.int .i64 1, .int .i64 9] 3))) (by omega) (by omega) (by omega)).mono ?_
  rw [show lowR false 6 1 = ⟨false, 6, 1⟩ by simp [lowR]]
  rintro e w12 ⟨rfl, hb⟩
  have HB_12 := Lib.hid ((HB_11.out.alloc HB_11.out.size (.cells #[.int .i64 1, .int .i64 9] 3)).trans (hb.mono (HB_11.out.alloc HB_11.out.size (.cells #[.int .i64 1, .int .i64 9] 3)).size))
  have K_12 := Lib.hid ((K_11.out.alloc (.cells #[.int .i64 1, .int .i64 9] 3)).below hb (K_11.out.alloc (.cells #[.int .i64 1, .int .i64 9] 3)).lt)
  have D_12 := Lib.hid ((D_11.out.below ((Below.refl _ _).alloc (Nat.le_refl _) (.cells #[.int .i64 1, .int .i64 9] 3))).below hb)
  have Ur0_12 := Lib.hid ((Ur0_11.out.below ((Below.refl _ _).alloc (Nat.le_refl _) (.cells #[.int .i64 1, .int .i64 9] 3))).below hb)
  have Vr0_12 := Lib.hid ((Vr0_11.out.below ((Below.refl _ _).alloc (Nat.le_refl _) (.cells #[.int .i64 1, .int .i64 9] 3))).below hb)
  have Ur1_12 := Lib.hid ((Ur1_11.out.below ((Below.refl _ _).alloc (Nat.le_refl _) (.cells #[.int .i64 1, .int .i64 9] 3))).below hb)
  have Vr1_12 := Lib.hid ((Vr1_11.out.below ((Below.refl _ _).alloc (Nat.le_refl _) (.cells #[.int .i64 1, .int .i64 9] 3))).below hb)
  have Ur2_12 := Lib.hid ((Ur2_11.out.below ((Below.refl _ _).alloc (Nat.le_refl _) (.cells #[.int .i64 1, .int .i64 9] 3))).below hb)
  have Vr2_12 := Lib.hid ((Vr2_11.out.below ((Below.refl _ _).alloc (Nat.le_refl _) (.cells #[.int .i64 1, .int .i64 9] 3))).below hb)
  have Cs3_12 := Lib.hid ((Cs3_11.out.below ((Below.refl _ _).alloc (Nat.le_refl _) (.cells #[.int .i64 1, .int .i64 9] 3))).below hb)
  have I_12 := Lib.hid (I.out.below hb)
  clear hb
  simp only [ratV]
  go_wp2_with fail
  refine (Run_any _ _ sampleL [1, 9] false (bs 6) (bs 1) 4 _ Cs3_12.out (by simp [sampleL]) I_12.out (by simp) (by omega) (HT.out.below HB_12.out)).mono ?_
  rintro e w13 ⟨hb, hr⟩
  have HB_13 := Lib.hid (HB_12.out.trans (hb.mono HB_12.out.size))
  have K_13 := Lib.hid (K_12.out.below hb K_12.out.lt)
  have D_13 := Lib.hid (D_12.out.below hb)
  have Ur0_13 := Lib.hid (Ur0_12.out.below hb)
  have Vr0_13 := Lib.hid (Vr0_12.out.below hb)
  have Ur1_13 := Lib.hid (Ur1_12.out.below hb)
  have Vr1_13 := Lib.hid (Vr1_12.out.below hb)
  have Ur2_13 := Lib.hid (Ur2_12.out.below hb)
  have Vr2_13 := Lib.hid (Vr2_12.out.below hb)
  have Cs3_13 := Lib.hid (Cs3_12.out.below hb)
  have I_13 := Lib.hid (I_12.out.below hb)
  obtain rfl := hr.elim (fun h => absurd h.1 (by rw [run_sample4]; simp)) (fun h => h.2)
  rw [run_sample4]
  clear hr
  clear hb
  clear Cs3_13
  clear I_13
  obtain ⟨q0, _⟩ := K_13.out.at 0 _ rfl
  obtain ⟨q1, _⟩ := K_13.out.at 1 _ rfl
  obtain ⟨q2, _⟩ := K_13.out.at 2 _ rfl
  have hk := K_13.out.lt
  have I : Hid (IntsV (w13.alloc (.cells #[.int .i64 0] 3)) (.slice (some ⟨w13.heap.size, 0, none⟩) 1 1) [0]) := by
    have := ints_new w13 [0] 3
    exact this
  go_wp2_with fail
  refine (Run_any _ _ (oneL 7) [0] false (bs 1) (bs 1) 1 _ (D_13.out.below ((Below.refl _ _).alloc (Nat.le_refl _) (.cells #[.int .i64 0] 3))) (by simp [oneL]) I.out (by simp) (by omega) (HT.out.below (HB_13.out.alloc HB_13.out.size (.cells #[.int .i64 0] 3)))).mono ?_
  rw [run_done]
  rintro e w14 ⟨hb, hr⟩
  have HB_14 := Lib.hid ((HB_13.out.alloc HB_13.out.size (.cells #[.int .i64 0] 3)).trans (hb.mono (HB_13.out.alloc HB_13.out.size (.cells #[.int .i64 0] 3)).size))
  have K_14 := Lib.hid ((K_13.out.alloc (.cells #[.int .i64 0] 3)).below hb (K_13.out.alloc (.cells #[.int .i64 0] 3)).lt)
  have D_14 := Lib.hid ((D_13.out.below ((Below.refl _ _).alloc (Nat.le_refl _) (.cells #[.int .i64 0] 3))).below hb)
  have Ur0_14 := Lib.hid ((Ur0_13.out.below ((Below.refl _ _).alloc (Nat.le_refl _) (.cells #[.int .i64 0] 3))).below hb)
  have Vr0_14 := Lib.hid ((Vr0_13.out.below ((Below.refl _ _).alloc (Nat.le_refl _) (.cells #[.int .i64 0] 3))).below hb)
  have Ur1_14 := Lib.hid ((Ur1_13.out.below ((Below.refl _ _).alloc (Nat.le_refl _) (.cells #[.int .i64 0] 3))).below hb)
  have Vr1_14 := Lib.hid ((Vr1_13.out.below ((Below.refl _ _).alloc (Nat.le_refl _) (.cells #[.int .i64 0] 3))).below hb)
  have Ur2_14 := Lib.hid ((Ur2_13.out.below ((Below.refl _ _).alloc (Nat.le_refl _) (.cells #[.int .i64 0] 3))).below hb)
  have Vr2_14 := Lib.hid ((Vr2_13.out.below ((Below.refl _ _).alloc (Nat.le_refl _) (.cells #[.int .i64 0] 3))).below hb)
  have I_14 := Lib.hid (I.out.below hb)
  obtain ⟨ud, vd, rfl, hu, hw⟩ : ∃ uv wv, e = _ ∧ _ ∧ _ := hr.elim (fun h => h.2) (fun h => absurd rfl h.1)
  have Ud_14 := Lib.hid (UsesV.of_owns hu)
  have Vd_14 := Lib.hid (WorksV.of_owns hw)
  clear hr hu hw
  clear hb
  clear I_14
  clear q0 q1 q2 hk
  obtain ⟨q0, _⟩ := K_14.out.at 0 _ rfl
  obtain ⟨q1, _⟩ := K_14.out.at 1 _ rfl
  obtain ⟨q2, _⟩ := K_14.out.at 2 _ rfl
  have hk := K_14.out.lt
  go_wp2_with fail
  refine (Run_any _ _ (oneL 7) [] false (bs 1) (bs 1) 1 _ D_14.out (by simp [oneL]) (ints_nil _) (by simp) (by omega) (HT.out.below HB_14.out)).mono ?_
  rintro e w15 ⟨hb, hr⟩
  have HB_15 := Lib.hid (HB_14.out.trans (hb.mono HB_14.out.size))
  have K_15 := Lib.hid (K_14.out.below hb K_14.out.lt)
  have D_15 := Lib.hid (D_14.out.below hb)
  have Ur0_15 := Lib.hid (Ur0_14.out.below hb)
  have Vr0_15 := Lib.hid (Vr0_14.out.below hb)
  have Ur1_15 := Lib.hid (Ur1_14.out.below hb)
  have Vr1_15 := Lib.hid (Vr1_14.out.below hb)
  have Ur2_15 := Lib.hid (Ur2_14.out.below hb)
  have Vr2_15 := Lib.hid (Vr2_14.out.below hb)
  have Ud_15 := Lib.hid (Ud_14.out.below hb)
  have Vd_15 := Lib.hid (Vd_14.out.below hb)
  obtain rfl := hr.elim (fun h => absurd h.1 (by rw [run_none]; simp)) (fun h => h.2)
  rw [run_none]
  clear hr
  clear hb
  clear q0 q1 q2 hk
  obtain ⟨q0, _⟩ := K_15.out.at 0 _ rfl
  obtain ⟨q1, _⟩ := K_15.out.at 1 _ rfl
  obtain ⟨q2, _⟩ := K_15.out.at 2 _ rfl
  have hk := K_15.out.lt
  have F : Hid (CodeV (w15.alloc (.cells #[.int .i64 8, .int .i64 0, .int .i64 0, .bool false, .string ⟨#[]⟩, .string ⟨#[]⟩] 40)) (.slice (some ⟨w15.heap.size, 0, none⟩) 1 1) (oneL 8)) := by
    have := code_new w15 (oneL 8) 40
    exact this
  have I : Hid (IntsV ((w15.alloc (.cells #[.int .i64 8, .int .i64 0, .int .i64 0, .bool false, .string ⟨#[]⟩, .string ⟨#[]⟩] 40)).alloc (.cells #[.int .i64 0] 3)) (.slice (some ⟨w15.heap.size + 1, 0, none⟩) 1 1) [0]) := by
    have := ints_new (w15.alloc (.cells #[.int .i64 8, .int .i64 0, .int .i64 0, .bool false, .string ⟨#[]⟩, .string ⟨#[]⟩] 40)) [0] 3
    rwa [World.size_alloc] at this
  go_wp2_with fail
  refine (Run_any _ _ (oneL 8) [0] false (bs 1) (bs 1) 1 _ (F.out.below ((Below.refl _ _).alloc (Nat.le_refl _) (.cells #[.int .i64 0] 3))) (by simp [oneL]) I.out (by simp) (by omega) (HT.out.below ((HB_15.out.alloc HB_15.out.size (.cells #[.int .i64 8, .int .i64 0, .int .i64 0, .bool false, .string ⟨#[]⟩, .string ⟨#[]⟩] 40)).alloc (HB_15.out.alloc HB_15.out.size (.cells #[.int .i64 8, .int .i64 0, .int .i64 0, .bool false, .string ⟨#[]⟩, .string ⟨#[]⟩] 40)).size (.cells #[.int .i64 0] 3)))).mono ?_
  rintro e w16 ⟨hb, hr⟩
  have HB_16 := Lib.hid (((HB_15.out.alloc HB_15.out.size (.cells #[.int .i64 8, .int .i64 0, .int .i64 0, .bool false, .string ⟨#[]⟩, .string ⟨#[]⟩] 40)).alloc (HB_15.out.alloc HB_15.out.size (.cells #[.int .i64 8, .int .i64 0, .int .i64 0, .bool false, .string ⟨#[]⟩, .string ⟨#[]⟩] 40)).size (.cells #[.int .i64 0] 3)).trans (hb.mono ((HB_15.out.alloc HB_15.out.size (.cells #[.int .i64 8, .int .i64 0, .int .i64 0, .bool false, .string ⟨#[]⟩, .string ⟨#[]⟩] 40)).alloc (HB_15.out.alloc HB_15.out.size (.cells #[.int .i64 8, .int .i64 0, .int .i64 0, .bool false, .string ⟨#[]⟩, .string ⟨#[]⟩] 40)).size (.cells #[.int .i64 0] 3)).size))
  have K_16 := Lib.hid (((K_15.out.alloc (.cells #[.int .i64 8, .int .i64 0, .int .i64 0, .bool false, .string ⟨#[]⟩, .string ⟨#[]⟩] 40)).alloc (.cells #[.int .i64 0] 3)).below hb ((K_15.out.alloc (.cells #[.int .i64 8, .int .i64 0, .int .i64 0, .bool false, .string ⟨#[]⟩, .string ⟨#[]⟩] 40)).alloc (.cells #[.int .i64 0] 3)).lt)
  have D_16 := Lib.hid (((D_15.out.below ((Below.refl _ _).alloc (Nat.le_refl _) (.cells #[.int .i64 8, .int .i64 0, .int .i64 0, .bool false, .string ⟨#[]⟩, .string ⟨#[]⟩] 40))).below ((Below.refl _ _).alloc (Nat.le_refl _) (.cells #[.int .i64 0] 3))).below hb)
  have Ur0_16 := Lib.hid (((Ur0_15.out.below ((Below.refl _ _).alloc (Nat.le_refl _) (.cells #[.int .i64 8, .int .i64 0, .int .i64 0, .bool false, .string ⟨#[]⟩, .string ⟨#[]⟩] 40))).below ((Below.refl _ _).alloc (Nat.le_refl _) (.cells #[.int .i64 0] 3))).below hb)
  have Vr0_16 := Lib.hid (((Vr0_15.out.below ((Below.refl _ _).alloc (Nat.le_refl _) (.cells #[.int .i64 8, .int .i64 0, .int .i64 0, .bool false, .string ⟨#[]⟩, .string ⟨#[]⟩] 40))).below ((Below.refl _ _).alloc (Nat.le_refl _) (.cells #[.int .i64 0] 3))).below hb)
  have Ur1_16 := Lib.hid (((Ur1_15.out.below ((Below.refl _ _).alloc (Nat.le_refl _) (.cells #[.int .i64 8, .int .i64 0, .int .i64 0, .bool false, .string ⟨#[]⟩, .string ⟨#[]⟩] 40))).below ((Below.refl _ _).alloc (Nat.le_refl _) (.cells #[.int .i64 0] 3))).below hb)
  have Vr1_16 := Lib.hid (((Vr1_15.out.below ((Below.refl _ _).alloc (Nat.le_refl _) (.cells #[.int .i64 8, .int .i64 0, .int .i64 0, .bool false, .string ⟨#[]⟩, .string ⟨#[]⟩] 40))).below ((Below.refl _ _).alloc (Nat.le_refl _) (.cells #[.int .i64 0] 3))).below hb)
  have Ur2_16 := Lib.hid (((Ur2_15.out.below ((Below.refl _ _).alloc (Nat.le_refl _) (.cells #[.int .i64 8, .int .i64 0, .int .i64 0, .bool false, .string ⟨#[]⟩, .string ⟨#[]⟩] 40))).below ((Below.refl _ _).alloc (Nat.le_refl _) (.cells #[.int .i64 0] 3))).below hb)
  have Vr2_16 := Lib.hid (((Vr2_15.out.below ((Below.refl _ _).alloc (Nat.le_refl _) (.cells #[.int .i64 8, .int .i64 0, .int .i64 0, .bool false, .string ⟨#[]⟩, .string ⟨#[]⟩] 40))).below ((Below.refl _ _).alloc (Nat.le_refl _) (.cells #[.int .i64 0] 3))).below hb)
  have Ud_16 := Lib.hid (((Ud_15.out.below ((Below.refl _ _).alloc (Nat.le_refl _) (.cells #[.int .i64 8, .int .i64 0, .int .i64 0, .bool false, .string ⟨#[]⟩, .string ⟨#[]⟩] 40))).below ((Below.refl _ _).alloc (Nat.le_refl _) (.cells #[.int .i64 0] 3))).below hb)
  have Vd_16 := Lib.hid (((Vd_15.out.below ((Below.refl _ _).alloc (Nat.le_refl _) (.cells #[.int .i64 8, .int .i64 0, .int .i64 0, .bool false, .string ⟨#[]⟩, .string ⟨#[]⟩] 40))).below ((Below.refl _ _).alloc (Nat.le_refl _) (.cells #[.int .i64 0] 3))).below hb)
  have F_16 := Lib.hid ((F.out.below ((Below.refl _ _).alloc (Nat.le_refl _) (.cells #[.int .i64 0] 3))).below hb)
  have I_16 := Lib.hid (I.out.below hb)
  obtain rfl := hr.elim (fun h => absurd h.1 (by rw [run_fail]; simp)) (fun h => h.2)
  rw [run_fail]
  clear hr
  clear hb
  clear I_16
  clear F_16
  clear q0 q1 q2 hk
  obtain ⟨q0, _⟩ := K_16.out.at 0 _ rfl
  obtain ⟨q1, _⟩ := K_16.out.at 1 _ rfl
  obtain ⟨q2, _⟩ := K_16.out.at 2 _ rfl
  have hk := K_16.out.lt
  go_wp2_with fail
  refine (Needs0 _ ⟨_, _, _, rfl⟩ _ (HT.out.below HB_16.out)).mono ?_
  rintro e w17 ⟨rfl, hb⟩
  have HB_17 := Lib.hid (HB_16.out.trans (hb.mono HB_16.out.size))
  have K_17 := Lib.hid (K_16.out.below hb K_16.out.lt)
  have D_17 := Lib.hid (D_16.out.below hb)
  have Ur0_17 := Lib.hid (Ur0_16.out.below hb)
  have Vr0_17 := Lib.hid (Vr0_16.out.below hb)
  have Ur1_17 := Lib.hid (Ur1_16.out.below hb)
  have Vr1_17 := Lib.hid (Vr1_16.out.below hb)
  have Ur2_17 := Lib.hid (Ur2_16.out.below hb)
  have Vr2_17 := Lib.hid (Vr2_16.out.below hb)
  have Ud_17 := Lib.hid (Ud_16.out.below hb)
  have Vd_17 := Lib.hid (Vd_16.out.below hb)
  clear hb
  clear q0 q1 q2 hk
  clear K_17
  go_wp2_with fail
  refine (mcheck_any (code_nil _) (by simp) (HT.out.below HB_17.out)).mono ?_
  rw [check_none]
  rintro e w18 ⟨rfl, hb⟩
  have HB_18 := Lib.hid (HB_17.out.trans (hb.mono HB_17.out.size))
  have D_18 := Lib.hid (D_17.out.below hb)
  have Ur0_18 := Lib.hid (Ur0_17.out.below hb)
  have Vr0_18 := Lib.hid (Vr0_17.out.below hb)
  have Ur1_18 := Lib.hid (Ur1_17.out.below hb)
  have Vr1_18 := Lib.hid (Vr1_17.out.below hb)
  have Ur2_18 := Lib.hid (Ur2_17.out.below hb)
  have Vr2_18 := Lib.hid (Vr2_17.out.below hb)
  have Ud_18 := Lib.hid (Ud_17.out.below hb)
  have Vd_18 := Lib.hid (Vd_17.out.below hb)
  clear hb
  go_wp2_with fail
  refine (sample_any _ (HT.out.below HB_18.out)).mono ?_
  rintro e w19 ⟨s9, rfl, hv, hb⟩
  have HB_19 := Lib.hid (HB_18.out.trans (hb.mono HB_18.out.size))
  have D_19 := Lib.hid (D_18.out.below hb)
  have Ur0_19 := Lib.hid (Ur0_18.out.below hb)
  have Vr0_19 := Lib.hid (Vr0_18.out.below hb)
  have Ur1_19 := Lib.hid (Ur1_18.out.below hb)
  have Vr1_19 := Lib.hid (Vr1_18.out.below hb)
  have Ur2_19 := Lib.hid (Ur2_18.out.below hb)
  have Vr2_19 := Lib.hid (Vr2_18.out.below hb)
  have Ud_19 := Lib.hid (Ud_18.out.below hb)
  have Vd_19 := Lib.hid (Vd_18.out.below hb)
  have Cs9_19 := Lib.hid hv
  clear hv
  clear hb
  go_wp2_with fail
  refine (mcheck_any Cs9_19.out (by simp [sampleL]) (HT.out.below HB_19.out)).mono ?_
  rw [check_sample]
  rintro e w20 ⟨rfl, hb⟩
  have HB_20 := Lib.hid (HB_19.out.trans (hb.mono HB_19.out.size))
  have D_20 := Lib.hid (D_19.out.below hb)
  have Ur0_20 := Lib.hid (Ur0_19.out.below hb)
  have Vr0_20 := Lib.hid (Vr0_19.out.below hb)
  have Ur1_20 := Lib.hid (Ur1_19.out.below hb)
  have Vr1_20 := Lib.hid (Vr1_19.out.below hb)
  have Ur2_20 := Lib.hid (Ur2_19.out.below hb)
  have Vr2_20 := Lib.hid (Vr2_19.out.below hb)
  have Ud_20 := Lib.hid (Ud_19.out.below hb)
  have Vd_20 := Lib.hid (Vd_19.out.below hb)
  have Cs9_20 := Lib.hid (Cs9_19.out.below hb)
  clear hb
  clear Cs9_20
  go_wp2_with fail
  refine (HR.out 15 4 _ (HT.out.below HB_20.out) (by omega) (by omega) (by omega)).mono ?_
  rw [show lowR false 15 4 = ⟨false, 15, 4⟩ by simp [lowR]]
  rintro e w21 ⟨rfl, hb⟩
  have HB_21 := Lib.hid (HB_20.out.trans (hb.mono HB_20.out.size))
  have D_21 := Lib.hid (D_20.out.below hb)
  have Ur0_21 := Lib.hid (Ur0_20.out.below hb)
  have Vr0_21 := Lib.hid (Vr0_20.out.below hb)
  have Ur1_21 := Lib.hid (Ur1_20.out.below hb)
  have Vr1_21 := Lib.hid (Vr1_20.out.below hb)
  have Ur2_21 := Lib.hid (Ur2_20.out.below hb)
  have Vr2_21 := Lib.hid (Vr2_20.out.below hb)
  have Ud_21 := Lib.hid (Ud_20.out.below hb)
  have Vd_21 := Lib.hid (Vd_20.out.below hb)
  clear hb
  simp only [ratV]
  have N : Hid (UsesV (w21.alloc (.cells #[.int .i64 1, .bool false, .string (bs 15), .string (bs 4), .bool false, .bool true] 58)) (.slice (some ⟨w21.heap.size, 0, none⟩) 1 1) [⟨1, ⟨false, 15, 4⟩, false, true⟩]) := by
    have := uses_new w21 [⟨1, ⟨false, 15, 4⟩, false, true⟩] 58
    exact this
  go_wp2_with fail
  refine (sameUses_yes _ _ _ _ (Ur0_21.out.below ((Below.refl _ _).alloc (Nat.le_refl _) (.cells #[.int .i64 1, .bool false, .string (bs 15), .string (bs 4), .bool false, .bool true] 58))) N.out (by simp)).mono ?_
  rintro e w22 ⟨rfl, hb⟩
  have HB_22 := Lib.hid ((HB_21.out.alloc HB_21.out.size (.cells #[.int .i64 1, .bool false, .string (bs 15), .string (bs 4), .bool false, .bool true] 58)).trans (hb.mono (HB_21.out.alloc HB_21.out.size (.cells #[.int .i64 1, .bool false, .string (bs 15), .string (bs 4), .bool false, .bool true] 58)).size))
  have D_22 := Lib.hid ((D_21.out.below ((Below.refl _ _).alloc (Nat.le_refl _) (.cells #[.int .i64 1, .bool false, .string (bs 15), .string (bs 4), .bool false, .bool true] 58))).below hb)
  have Ur0_22 := Lib.hid ((Ur0_21.out.below ((Below.refl _ _).alloc (Nat.le_refl _) (.cells #[.int .i64 1, .bool false, .string (bs 15), .string (bs 4), .bool false, .bool true] 58))).below hb)
  have Vr0_22 := Lib.hid ((Vr0_21.out.below ((Below.refl _ _).alloc (Nat.le_refl _) (.cells #[.int .i64 1, .bool false, .string (bs 15), .string (bs 4), .bool false, .bool true] 58))).below hb)
  have Ur1_22 := Lib.hid ((Ur1_21.out.below ((Below.refl _ _).alloc (Nat.le_refl _) (.cells #[.int .i64 1, .bool false, .string (bs 15), .string (bs 4), .bool false, .bool true] 58))).below hb)
  have Vr1_22 := Lib.hid ((Vr1_21.out.below ((Below.refl _ _).alloc (Nat.le_refl _) (.cells #[.int .i64 1, .bool false, .string (bs 15), .string (bs 4), .bool false, .bool true] 58))).below hb)
  have Ur2_22 := Lib.hid ((Ur2_21.out.below ((Below.refl _ _).alloc (Nat.le_refl _) (.cells #[.int .i64 1, .bool false, .string (bs 15), .string (bs 4), .bool false, .bool true] 58))).below hb)
  have Vr2_22 := Lib.hid ((Vr2_21.out.below ((Below.refl _ _).alloc (Nat.le_refl _) (.cells #[.int .i64 1, .bool false, .string (bs 15), .string (bs 4), .bool false, .bool true] 58))).below hb)
  have Ud_22 := Lib.hid ((Ud_21.out.below ((Below.refl _ _).alloc (Nat.le_refl _) (.cells #[.int .i64 1, .bool false, .string (bs 15), .string (bs 4), .bool false, .bool true] 58))).below hb)
  have Vd_22 := Lib.hid ((Vd_21.out.below ((Below.refl _ _).alloc (Nat.le_refl _) (.cells #[.int .i64 1, .bool false, .string (bs 15), .string (bs 4), .bool false, .bool true] 58))).below hb)
  have N_22 := Lib.hid (N.out.below hb)
  clear hb
  clear N_22
  have M : Hid (WorksV (w22.alloc (.cells #[.int .i64 1, .int .i64 6] 60)) (.slice (some ⟨w22.heap.size, 0, none⟩) 1 1) [(1, 6)]) := by
    have := works_new w22 [(1, 6)] 60
    exact this
  go_wp2_with fail
  refine (sameWork_yes _ _ _ _ (Vr0_22.out.below ((Below.refl _ _).alloc (Nat.le_refl _) (.cells #[.int .i64 1, .int .i64 6] 60))) M.out (by simp)).mono ?_
  rintro e w23 ⟨rfl, hb⟩
  have HB_23 := Lib.hid ((HB_22.out.alloc HB_22.out.size (.cells #[.int .i64 1, .int .i64 6] 60)).trans (hb.mono (HB_22.out.alloc HB_22.out.size (.cells #[.int .i64 1, .int .i64 6] 60)).size))
  have D_23 := Lib.hid ((D_22.out.below ((Below.refl _ _).alloc (Nat.le_refl _) (.cells #[.int .i64 1, .int .i64 6] 60))).below hb)
  have Ur0_23 := Lib.hid ((Ur0_22.out.below ((Below.refl _ _).alloc (Nat.le_refl _) (.cells #[.int .i64 1, .int .i64 6] 60))).below hb)
  have Vr0_23 := Lib.hid ((Vr0_22.out.below ((Below.refl _ _).alloc (Nat.le_refl _) (.cells #[.int .i64 1, .int .i64 6] 60))).below hb)
  have Ur1_23 := Lib.hid ((Ur1_22.out.below ((Below.refl _ _).alloc (Nat.le_refl _) (.cells #[.int .i64 1, .int .i64 6] 60))).below hb)
  have Vr1_23 := Lib.hid ((Vr1_22.out.below ((Below.refl _ _).alloc (Nat.le_refl _) (.cells #[.int .i64 1, .int .i64 6] 60))).below hb)
  have Ur2_23 := Lib.hid ((Ur2_22.out.below ((Below.refl _ _).alloc (Nat.le_refl _) (.cells #[.int .i64 1, .int .i64 6] 60))).below hb)
  have Vr2_23 := Lib.hid ((Vr2_22.out.below ((Below.refl _ _).alloc (Nat.le_refl _) (.cells #[.int .i64 1, .int .i64 6] 60))).below hb)
  have Ud_23 := Lib.hid ((Ud_22.out.below ((Below.refl _ _).alloc (Nat.le_refl _) (.cells #[.int .i64 1, .int .i64 6] 60))).below hb)
  have Vd_23 := Lib.hid ((Vd_22.out.below ((Below.refl _ _).alloc (Nat.le_refl _) (.cells #[.int .i64 1, .int .i64 6] 60))).below hb)
  have M_23 := Lib.hid (M.out.below hb)
  clear hb
  clear M_23
  go_wp2_with fail
  refine (HR.out 42 1 _ (HT.out.below HB_23.out) (by omega) (by omega) (by omega)).mono ?_
  rw [show lowR false 42 1 = ⟨false, 42, 1⟩ by simp [lowR]]
  rintro e w24 ⟨rfl, hb⟩
  have HB_24 := Lib.hid (HB_23.out.trans (hb.mono HB_23.out.size))
  have D_24 := Lib.hid (D_23.out.below hb)
  have Ur0_24 := Lib.hid (Ur0_23.out.below hb)
  have Vr0_24 := Lib.hid (Vr0_23.out.below hb)
  have Ur1_24 := Lib.hid (Ur1_23.out.below hb)
  have Vr1_24 := Lib.hid (Vr1_23.out.below hb)
  have Ur2_24 := Lib.hid (Ur2_23.out.below hb)
  have Vr2_24 := Lib.hid (Vr2_23.out.below hb)
  have Ud_24 := Lib.hid (Ud_23.out.below hb)
  have Vd_24 := Lib.hid (Vd_23.out.below hb)
  clear hb
  simp only [ratV]
  have N : Hid (UsesV (w24.alloc (.cells #[.int .i64 3, .bool false, .string (bs 42), .string (bs 1), .bool true, .bool false] 58)) (.slice (some ⟨w24.heap.size, 0, none⟩) 1 1) [⟨3, ⟨false, 42, 1⟩, true, false⟩]) := by
    have := uses_new w24 [⟨3, ⟨false, 42, 1⟩, true, false⟩] 58
    exact this
  go_wp2_with fail
  refine (sameUses_yes _ _ _ _ (Ur1_24.out.below ((Below.refl _ _).alloc (Nat.le_refl _) (.cells #[.int .i64 3, .bool false, .string (bs 42), .string (bs 1), .bool true, .bool false] 58))) N.out (by simp)).mono ?_
  rintro e w25 ⟨rfl, hb⟩
  have HB_25 := Lib.hid ((HB_24.out.alloc HB_24.out.size (.cells #[.int .i64 3, .bool false, .string (bs 42), .string (bs 1), .bool true, .bool false] 58)).trans (hb.mono (HB_24.out.alloc HB_24.out.size (.cells #[.int .i64 3, .bool false, .string (bs 42), .string (bs 1), .bool true, .bool false] 58)).size))
  have D_25 := Lib.hid ((D_24.out.below ((Below.refl _ _).alloc (Nat.le_refl _) (.cells #[.int .i64 3, .bool false, .string (bs 42), .string (bs 1), .bool true, .bool false] 58))).below hb)
  have Ur0_25 := Lib.hid ((Ur0_24.out.below ((Below.refl _ _).alloc (Nat.le_refl _) (.cells #[.int .i64 3, .bool false, .string (bs 42), .string (bs 1), .bool true, .bool false] 58))).below hb)
  have Vr0_25 := Lib.hid ((Vr0_24.out.below ((Below.refl _ _).alloc (Nat.le_refl _) (.cells #[.int .i64 3, .bool false, .string (bs 42), .string (bs 1), .bool true, .bool false] 58))).below hb)
  have Ur1_25 := Lib.hid ((Ur1_24.out.below ((Below.refl _ _).alloc (Nat.le_refl _) (.cells #[.int .i64 3, .bool false, .string (bs 42), .string (bs 1), .bool true, .bool false] 58))).below hb)
  have Vr1_25 := Lib.hid ((Vr1_24.out.below ((Below.refl _ _).alloc (Nat.le_refl _) (.cells #[.int .i64 3, .bool false, .string (bs 42), .string (bs 1), .bool true, .bool false] 58))).below hb)
  have Ur2_25 := Lib.hid ((Ur2_24.out.below ((Below.refl _ _).alloc (Nat.le_refl _) (.cells #[.int .i64 3, .bool false, .string (bs 42), .string (bs 1), .bool true, .bool false] 58))).below hb)
  have Vr2_25 := Lib.hid ((Vr2_24.out.below ((Below.refl _ _).alloc (Nat.le_refl _) (.cells #[.int .i64 3, .bool false, .string (bs 42), .string (bs 1), .bool true, .bool false] 58))).below hb)
  have Ud_25 := Lib.hid ((Ud_24.out.below ((Below.refl _ _).alloc (Nat.le_refl _) (.cells #[.int .i64 3, .bool false, .string (bs 42), .string (bs 1), .bool true, .bool false] 58))).below hb)
  have Vd_25 := Lib.hid ((Vd_24.out.below ((Below.refl _ _).alloc (Nat.le_refl _) (.cells #[.int .i64 3, .bool false, .string (bs 42), .string (bs 1), .bool true, .bool false] 58))).below hb)
  have N_25 := Lib.hid (N.out.below hb)
  clear hb
  clear N_25
  obtain ⟨A9, c9, e9, _⟩ := Vr1_25.out
  subst e9
  go_wp2_with fail
  refine (sameUses_yes _ _ _ _ Ur1_25.out Ur2_25.out (by simp)).mono ?_
  rintro e w26 ⟨rfl, hb⟩
  have HB_26 := Lib.hid (HB_25.out.trans (hb.mono HB_25.out.size))
  have D_26 := Lib.hid (D_25.out.below hb)
  have Ur0_26 := Lib.hid (Ur0_25.out.below hb)
  have Vr0_26 := Lib.hid (Vr0_25.out.below hb)
  have Ur1_26 := Lib.hid (Ur1_25.out.below hb)
  have Vr1_26 := Lib.hid (Vr1_25.out.below hb)
  have Ur2_26 := Lib.hid (Ur2_25.out.below hb)
  have Vr2_26 := Lib.hid (Vr2_25.out.below hb)
  have Ud_26 := Lib.hid (Ud_25.out.below hb)
  have Vd_26 := Lib.hid (Vd_25.out.below hb)
  clear hb
  go_wp2
  go_ret
  exact ⟨rfl, HB_26.out⟩
end Go.Proofs.YtoolanjbmbcaiaaGreatDoor
