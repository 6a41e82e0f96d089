/- Contracts of functions that the law reaches, and plain lemmas, texts Mp Ma Mb Mc Md Me Mf: no condition beyond those that each theorem names. -/
import Derived.Test.YtoolanjbmbcaiaaGreatDoorGb
namespace Go.Proofs.YtoolanjbmbcaiaaGreatDoor
open Go.RowKit Bf

/-- An instruction. -/
structure In where
  op : Int
  A : Int
  B : Int
  neg : Bool
  n : ByteArray
  d : ByteArray

def In.rt (x : In) : Rt := ⟨x.neg, bv x.n, bv x.d⟩
/-- Its value. -/
def inV (x : In) : Value := .agg #[.int .i64 x.op, .int .i64 x.A, .int .i64 x.B, .bool x.neg, .string x.n, .string x.d]

def btw (n l g : Int) : Bool := decide (l ≤ n) && decide (n ≤ g)
/-- A ratio is valid, and not negative. -/
noncomputable def alz (neg : Bool) (n d : ByteArray) : Bool := (rchk neg n d == 0) && !neg
theorem alz_iff {neg : Bool} {n d : ByteArray} : alz neg n d = true ↔ RatS neg n d ∧ neg = false := by
  unfold alz
  by_cases h : RatS neg n d
  · rw [rchk_ok h]; simp [h]
  · rw [rchk_no h]; simp [h]

/-- What valid returns, by the operation. -/
noncomputable def vldB (x : In) (after : Int) : Bool :=
  if x.op = 1 then (btw x.A (-2) 5 && btw x.B 0 1024) && decide (2 ≤ after)
  else if x.op = 2 then decide (0 ≤ x.A) && decide (x.A < after)
  else if x.op = 3 then ((alz x.neg x.n x.d && !x.n.toList.isEmpty) && btw x.A 0 63) && btw x.B 0 15
  else if x.op = 4 then (alz x.neg x.n x.d && btw x.A 0 31) && btw x.B 0 1
  else if x.op = 5 then (alz x.neg x.n x.d && btw x.A 0 31) && decide (x.B = 0)
  else if x.op = 6 then btw x.A 0 15 && btw x.B 0 15
  else if x.op = 7 then true else if x.op = 8 then true else false

/-- A program is valid. -/
def progOk (l : List In) : Prop := 0 < l.length ∧ l.length ≤ 4096 ∧ (∀ (i : Nat) (x : In), l[i]? = some x → vldB x ((l.length : Int) - 1 - (i : Int)) = true) ∧ (∀ x, l[l.length - 1]? = some x → x.op = 7 ∨ x.op = 8)
open Classical in
noncomputable def progE (l : List In) : Int := if progOk l then 0 else 171
theorem progE_ok {l : List In} (h : progOk l) : progE l = 0 := if_pos h
theorem progE_no {l : List In} (h : ¬ progOk l) : progE l = 171 := if_neg h

structure UseR where
  item : Int
  amt : Rt
  out : Bool
  back : Bool
/-- How far a run has come. -/
structure Mst where
  bat : Rt
  next : Nat
  fuel : Nat
  lead : Int
  uses : List UseR
  works : List (Int × Int)
inductive Out where
  | go (s : Mst)
  | stop (e : Int) (s : Mst)

def holdsI (ch : List Int) (day : Int) (x : In) : Bool :=
  if x.A = -1 then decide (x.B ≤ day) else if x.A = -2 then decide (day < x.B) else match ch[x.A.toNat]? with | some c => c == x.B | none => false
/-- One instruction. -/
def stepI (ch : List Int) (day : Int) (amt : Rt) (x : In) (s : Mst) : Out :=
  if x.op = 1 then .go { s with next := if holdsI ch day x then s.next + 1 else s.next }
  else if x.op = 2 then .go { s with next := s.next + x.A.toNat }
  else if x.op = 3 then match divR amt x.rt with | none => .stop 2 s | some q => .go { s with bat := q, lead := x.B }
  else if x.op = 4 then match mulR x.rt s.bat with | none => .stop 2 s | some a => .go { s with uses := s.uses ++ [⟨x.A, a, false, x.B == 1⟩] }
  else if x.op = 5 then match mulR x.rt s.bat with | none => .stop 2 s | some a => .go { s with uses := s.uses ++ [⟨x.A, a, true, false⟩] }
  else if x.op = 6 then match ceilR s.bat with | none => .stop 2 s | some k => if 1099511627776 < k then .stop 2 s else .go { s with works := s.works ++ [(x.A, x.B * k)] }
  else if x.op = 7 then .stop 0 s else .stop 160 s
/-- A run, with a bound on its length. -/
def runI (code : List In) (ch : List Int) (day : Int) (amt : Rt) : Nat → Mst → Int × Mst
  | 0, s => (170, s)
  | g + 1, s => if s.fuel = 0 then (170, s) else match code[s.next]? with
    | none => (170, s)
    | some x => match stepI ch day amt x { s with fuel := s.fuel - 1, next := s.next + 1 } with
      | .go s' => runI code ch day amt g s'
      | .stop e s' => (e, s')
def begin0 (fuel : Nat) : Mst := { bat := ⟨false, 0, 1⟩, next := 0, fuel := fuel, lead := 0, uses := [], works := [] }
end Go.Proofs.YtoolanjbmbcaiaaGreatDoor
namespace Go.Proofs.YtoolanjbmbcaiaaGreatDoor
open Go.RowKit Bf

theorem between_any (n l g : Int) (w : World) : Calls Tryz.prog 28 #[.int .i64 n, .int .i64 l, .int .i64 g] w fun e w' => e = .returned (.bool (btw n l g)) ∧ w = w' := by
  unfold btw
  by_cases h1 : l ≤ n
  · have t1 : decide (l ≤ n) = true := by simpa using h1
    by_cases h2 : n ≤ g
    · have t2 : decide (n ≤ g) = true := by simpa using h2
      go_enter Tryz.func28, Tryz.ntmps28
      go_wp2
      go_ret
      exact ⟨by first | rfl | (rw [t1, t2]; rfl), rfl⟩
    · have t2 : decide (n ≤ g) = false := by simpa using h2
      go_enter Tryz.func28, Tryz.ntmps28
      go_wp2
      go_ret
      exact ⟨by first | rfl | (rw [t1, t2]; rfl), rfl⟩
  · have t1 : decide (l ≤ n) = false := by simpa using h1
    go_enter Tryz.func28, Tryz.ntmps28
    go_wp2
    go_ret
    exact ⟨by first | rfl | (rw [t1]; rfl), rfl⟩

theorem alz_any (neg : Bool) (n d : ByteArray) (w : World) (hT : Tab w) : Calls Tryz.prog 52 #[.agg #[.bool neg, .string n, .string d]] w (Ret w (.bool (alz neg n d))) := by
  have HC := Lib.hid (fun W (hW : Tab W) => rcheck_any neg n d W hW)
  have HT := Lib.hid hT
  have hnot : ∀ (x : Bool) (w : World), (Op.unary .not (.bool x)).run Tryz.prog w = .ok (.bool (!x)) w := fun _ _ => rfl
  unfold alz
  generalize rchk neg n d = rv at *
  clear hT
  by_cases h : rv = 0
  · subst h
    go_enter Tryz.func52, Tryz.ntmps52
    go_wp2_with fail
    refine (HC.out _ (HT.out.below ((Below.refl w.heap.size w).alloc (Nat.le_refl _) _))).mono ?_
    rintro e w1 ⟨rfl, hb1⟩
    obtain ⟨hc1, hf1⟩ := bcell hb1
    have HB1 := Lib.hid (((Below.refl w.heap.size w).alloc (Nat.le_refl _) _).trans (hb1.mono (by simp)))
    clear hb1
    go_wp2
    go_ret
    exact ⟨by simp, HB1.out⟩
  · have t : (rv == 0) = false := by simpa using h
    rw [t]
    clear h
    go_enter Tryz.func52, Tryz.ntmps52
    go_wp2_with fail
    refine (HC.out _ (HT.out.below ((Below.refl w.heap.size w).alloc (Nat.le_refl _) _))).mono ?_
    rintro e w1 ⟨rfl, hb1⟩
    obtain ⟨hc1, hf1⟩ := bcell hb1
    have HB1 := Lib.hid (((Below.refl w.heap.size w).alloc (Nat.le_refl _) _).trans (hb1.mono (by simp)))
    clear hb1
    go_wp2
    go_ret
    exact ⟨rfl, HB1.out⟩

set_option maxRecDepth 100000 in
set_option maxHeartbeats 2000000 in
theorem valid1 (A B : Int) (neg : Bool) (n d : ByteArray) (after : Int) (w : World) :
    Calls Tryz.prog 25 #[.agg #[.int .i64 1, .int .i64 A, .int .i64 B, .bool neg, .string n, .string d], .int .i64 after] w (Ret w (.bool ((btw A (-2) 5 && btw B 0 1024) && decide (2 ≤ after)))) := by
  have H1 := Lib.hid (fun W => between_any A (-2) 5 W)
  have H2 := Lib.hid (fun W => between_any B 0 1024 W)
  generalize btw A (-2) 5 = b1 at *
  generalize btw B 0 1024 = b2 at *
  cases b1 <;> cases b2
  all_goals
    go_enter Tryz.func25, Tryz.ntmps25
    go_wp2_with (first | (go_at_call 28; with_reducible refine (H1.out _).mono ?_; rintro e w1 ⟨rfl, rfl⟩) | (go_at_call 28; with_reducible refine (H2.out _).mono ?_; rintro e w1 ⟨rfl, rfl⟩))
    go_ret
    exact ⟨by first | rfl | simp, (Below.refl _ _).alloc (Nat.le_refl _) _⟩
set_option maxRecDepth 100000 in
set_option maxHeartbeats 2000000 in
theorem valid2 (A B : Int) (neg : Bool) (n d : ByteArray) (after : Int) (w : World) :
    Calls Tryz.prog 25 #[.agg #[.int .i64 2, .int .i64 A, .int .i64 B, .bool neg, .string n, .string d], .int .i64 after] w (Ret w (.bool (decide (0 ≤ A) && decide (A < after)))) := by
  obtain ⟨p1, h1⟩ : ∃ p1, decide (0 ≤ A) = p1 := ⟨_, rfl⟩
  obtain ⟨p2, h2⟩ : ∃ p2, decide (A < after) = p2 := ⟨_, rfl⟩
  rw [h1, h2]
  cases p1 <;> cases p2
  all_goals
    go_enter Tryz.func25, Tryz.ntmps25
    go_wp2
    go_ret
    exact ⟨by first | rfl | simp, (Below.refl _ _).alloc (Nat.le_refl _) _⟩

set_option maxRecDepth 100000 in
set_option maxHeartbeats 2000000 in
theorem valid3 (A B : Int) (neg : Bool) (n d : ByteArray) (after : Int) (w : World) (hT : Tab w) :
    Calls Tryz.prog 25 #[.agg #[.int .i64 3, .int .i64 A, .int .i64 B, .bool neg, .string n, .string d], .int .i64 after] w (Ret w (.bool (((alz neg n d && !n.toList.isEmpty) && btw A 0 63) && btw B 0 15))) := by
  have HA := Lib.hid (fun W (hW : Tab W) => alz_any neg n d W hW)
  have HT := Lib.hid hT
  clear hT
  generalize alz neg n d = b0 at *
  have H1 := Lib.hid (fun W => between_any A 0 63 W)
  generalize btw A 0 63 = b1 at *
  have H2 := Lib.hid (fun W => between_any B 0 15 W)
  generalize btw B 0 15 = b2 at *
  obtain ⟨p1, h1⟩ : ∃ p1, n.toList.isEmpty = p1 := ⟨_, rfl⟩
  rw [h1]
  cases b0 <;> cases p1 <;> cases b1 <;> cases b2
  all_goals
    go_enter Tryz.func25, Tryz.ntmps25
    go_wp2_with fail
    refine (HA.out _ (HT.out.below ((Below.refl w.heap.size w).alloc (Nat.le_refl _) _))).mono ?_
    rintro e w1 ⟨rfl, hb1⟩
    obtain ⟨hc1, hf1⟩ := bcell hb1
    have hy1 : w.heap.size < w1.heap.size := by have := hb1.size; simp at this; omega
    have HB1 := Lib.hid (((Below.refl w.heap.size w).alloc (Nat.le_refl _) _).trans (hb1.mono (by simp)))
    clear hb1
    go_wp2_with (first | (go_at_call 28; with_reducible refine (H1.out _).mono ?_; rintro e w2 ⟨rfl, rfl⟩) | (go_at_call 28; with_reducible refine (H2.out _).mono ?_; rintro e w2 ⟨rfl, rfl⟩))
    go_ret
    exact ⟨by first | rfl | simp, HB1.out⟩

set_option maxRecDepth 100000 in
set_option maxHeartbeats 2000000 in
theorem valid4 (A B : Int) (neg : Bool) (n d : ByteArray) (after : Int) (w : World) (hT : Tab w) :
    Calls Tryz.prog 25 #[.agg #[.int .i64 4, .int .i64 A, .int .i64 B, .bool neg, .string n, .string d], .int .i64 after] w (Ret w (.bool ((alz neg n d && btw A 0 31) && btw B 0 1))) := by
  have HA := Lib.hid (fun W (hW : Tab W) => alz_any neg n d W hW)
  have HT := Lib.hid hT
  clear hT
  generalize alz neg n d = b0 at *
  have H1 := Lib.hid (fun W => between_any A 0 31 W)
  generalize btw A 0 31 = b1 at *
  have H2 := Lib.hid (fun W => between_any B 0 1 W)
  generalize btw B 0 1 = b2 at *
  cases b0 <;> cases b1 <;> cases b2
  all_goals
    go_enter Tryz.func25, Tryz.ntmps25
    go_wp2_with fail
    refine (HA.out _ (HT.out.below ((Below.refl w.heap.size w).alloc (Nat.le_refl _) _))).mono ?_
    rintro e w1 ⟨rfl, hb1⟩
    obtain ⟨hc1, hf1⟩ := bcell hb1
    have hy1 : w.heap.size < w1.heap.size := by have := hb1.size; simp at this; omega
    have HB1 := Lib.hid (((Below.refl w.heap.size w).alloc (Nat.le_refl _) _).trans (hb1.mono (by simp)))
    clear hb1
    go_wp2_with (first | (go_at_call 28; with_reducible refine (H1.out _).mono ?_; rintro e w2 ⟨rfl, rfl⟩) | (go_at_call 28; with_reducible refine (H2.out _).mono ?_; rintro e w2 ⟨rfl, rfl⟩))
    go_ret
    exact ⟨by first | rfl | simp, HB1.out⟩

set_option maxRecDepth 100000 in
set_option maxHeartbeats 2000000 in
theorem valid5 (A B : Int) (neg : Bool) (n d : ByteArray) (after : Int) (w : World) (hT : Tab w) :
    Calls Tryz.prog 25 #[.agg #[.int .i64 5, .int .i64 A, .int .i64 B, .bool neg, .string n, .string d], .int .i64 after] w (Ret w (.bool ((alz neg n d && btw A 0 31) && decide (B = 0)))) := by
  have HA := Lib.hid (fun W (hW : Tab W) => alz_any neg n d W hW)
  have HT := Lib.hid hT
  clear hT
  generalize alz neg n d = b0 at *
  have H1 := Lib.hid (fun W => between_any A 0 31 W)
  generalize btw A 0 31 = b1 at *
  rw [show decide (B = 0) = (B == 0) from by rw [Bool.eq_iff_iff]; simp]
  obtain ⟨p1, h1⟩ : ∃ p1, (B == 0) = p1 := ⟨_, rfl⟩
  rw [h1]
  cases b0 <;> cases b1 <;> cases p1
  all_goals
    go_enter Tryz.func25, Tryz.ntmps25
    go_wp2_with fail
    refine (HA.out _ (HT.out.below ((Below.refl w.heap.size w).alloc (Nat.le_refl _) _))).mono ?_
    rintro e w1 ⟨rfl, hb1⟩
    obtain ⟨hc1, hf1⟩ := bcell hb1
    have hy1 : w.heap.size < w1.heap.size := by have := hb1.size; simp at this; omega
    have HB1 := Lib.hid (((Below.refl w.heap.size w).alloc (Nat.le_refl _) _).trans (hb1.mono (by simp)))
    clear hb1
    go_wp2_with (first | (go_at_call 28; with_reducible refine (H1.out _).mono ?_; rintro e w2 ⟨rfl, rfl⟩))
    go_ret
    exact ⟨by first | rfl | simp, HB1.out⟩

set_option maxRecDepth 100000 in
set_option maxHeartbeats 2000000 in
theorem valid6 (A B : Int) (neg : Bool) (n d : ByteArray) (after : Int) (w : World) :
    Calls Tryz.prog 25 #[.agg #[.int .i64 6, .int .i64 A, .int .i64 B, .bool neg, .string n, .string d], .int .i64 after] w (Ret w (.bool (btw A 0 15 && btw B 0 15))) := by
  have H1 := Lib.hid (fun W => between_any A 0 15 W)
  generalize btw A 0 15 = b1 at *
  have H2 := Lib.hid (fun W => between_any B 0 15 W)
  generalize btw B 0 15 = b2 at *
  cases b1 <;> cases b2
  all_goals
    go_enter Tryz.func25, Tryz.ntmps25
    go_wp2_with (first | (go_at_call 28; with_reducible refine (H1.out _).mono ?_; rintro e w2 ⟨rfl, rfl⟩) | (go_at_call 28; with_reducible refine (H2.out _).mono ?_; rintro e w2 ⟨rfl, rfl⟩))
    go_ret
    exact ⟨by first | rfl | simp, (Below.refl _ _).alloc (Nat.le_refl _) _⟩

set_option maxRecDepth 100000 in
set_option maxHeartbeats 2000000 in
theorem valid7 (A B : Int) (neg : Bool) (n d : ByteArray) (after : Int) (w : World) :
    Calls Tryz.prog 25 #[.agg #[.int .i64 7, .int .i64 A, .int .i64 B, .bool neg, .string n, .string d], .int .i64 after] w (Ret w (.bool (true))) := by
  go_enter Tryz.func25, Tryz.ntmps25
  go_wp2
  go_ret
  exact ⟨by first | rfl | simp, (Below.refl _ _).alloc (Nat.le_refl _) _⟩

set_option maxRecDepth 100000 in
set_option maxHeartbeats 2000000 in
theorem valid8 (A B : Int) (neg : Bool) (n d : ByteArray) (after : Int) (w : World) :
    Calls Tryz.prog 25 #[.agg #[.int .i64 8, .int .i64 A, .int .i64 B, .bool neg, .string n, .string d], .int .i64 after] w (Ret w (.bool (true))) := by
  go_enter Tryz.func25, Tryz.ntmps25
  go_wp2
  go_ret
  exact ⟨by first | rfl | simp, (Below.refl _ _).alloc (Nat.le_refl _) _⟩

set_option maxRecDepth 100000 in
set_option maxHeartbeats 2000000 in
theorem valid_other (op A B : Int) (neg : Bool) (n d : ByteArray) (after : Int) (w : World) (h : op < 1 ∨ 8 < op) :
    Calls Tryz.prog 25 #[.agg #[.int .i64 op, .int .i64 A, .int .i64 B, .bool neg, .string n, .string d], .int .i64 after] w (Ret w (.bool false)) := by
  have t1 : (op == 1) = false := by rw [beq_eq_false_iff_ne]; omega
  have t2 : (op == 2) = false := by rw [beq_eq_false_iff_ne]; omega
  have t3 : (op == 3) = false := by rw [beq_eq_false_iff_ne]; omega
  have t4 : (op == 4) = false := by rw [beq_eq_false_iff_ne]; omega
  have t5 : (op == 5) = false := by rw [beq_eq_false_iff_ne]; omega
  have t6 : (op == 6) = false := by rw [beq_eq_false_iff_ne]; omega
  have t7 : (op == 7) = false := by rw [beq_eq_false_iff_ne]; omega
  have t8 : (op == 8) = false := by rw [beq_eq_false_iff_ne]; omega
  clear h
  go_enter Tryz.func25, Tryz.ntmps25
  go_wp2
  go_ret
  exact ⟨rfl, (Below.refl _ _).alloc (Nat.le_refl _) _⟩

theorem valid_any (x : In) (after : Int) (w : World) (hT : Tab w) : Calls Tryz.prog 25 #[inV x, .int .i64 after] w (Ret w (.bool (vldB x after))) := by
  obtain ⟨op, A, B, neg, n, d⟩ := x
  unfold inV vldB
  by_cases h : op < 1 ∨ 8 < op
  · simp only
    rw [if_neg (by omega), if_neg (by omega), if_neg (by omega), if_neg (by omega), if_neg (by omega), if_neg (by omega), if_neg (by omega), if_neg (by omega)]
    exact valid_other op A B neg n d after w h
  · have h8 : op = 1 ∨ op = 2 ∨ op = 3 ∨ op = 4 ∨ op = 5 ∨ op = 6 ∨ op = 7 ∨ op = 8 := by omega
    rcases h8 with rfl | rfl | rfl | rfl | rfl | rfl | rfl | rfl
    · exact valid1 A B neg n d after w
    · exact valid2 A B neg n d after w
    · exact valid3 A B neg n d after w hT
    · exact valid4 A B neg n d after w hT
    · exact valid5 A B neg n d after w hT
    · exact valid6 A B neg n d after w
    · exact valid7 A B neg n d after w
    · exact valid8 A B neg n d after w
end Go.Proofs.YtoolanjbmbcaiaaGreatDoor
namespace Go.Proofs.YtoolanjbmbcaiaaGreatDoor
open Go.RowKit Bf

/-- A program lies in memory from a place on. -/
def CodeAt (w : World) (b off : Nat) (l : List In) : Prop := b < w.heap.size ∧ ∀ (i : Nat) (x : In), l[i]? = some x →
  w.cell? ⟨b, off + 6 * i, none⟩ = some (.int .i64 x.op) ∧ w.cell? ⟨b, off + 6 * i + 1, none⟩ = some (.int .i64 x.A) ∧ w.cell? ⟨b, off + 6 * i + 2, none⟩ = some (.int .i64 x.B) ∧
  w.cell? ⟨b, off + 6 * i + 3, none⟩ = some (.bool x.neg) ∧ w.cell? ⟨b, off + 6 * i + 4, none⟩ = some (.string x.n) ∧ w.cell? ⟨b, off + 6 * i + 5, none⟩ = some (.string x.d)
theorem CodeAt.below {w W : World} {b off B : Nat} {l : List In} (h : CodeAt w b off l) (hb : Below B w W) (hB : b < B) : CodeAt W b off l := by
  refine ⟨Nat.lt_of_lt_of_le h.1 hb.size, fun i x hx => ?_⟩
  obtain ⟨h0, h1, h2, h3, h4, h5⟩ := h.2 i x hx
  exact ⟨(hb.cell (p := ⟨b, _, none⟩) hB).trans h0, (hb.cell (p := ⟨b, _, none⟩) hB).trans h1, (hb.cell (p := ⟨b, _, none⟩) hB).trans h2, (hb.cell (p := ⟨b, _, none⟩) hB).trans h3, (hb.cell (p := ⟨b, _, none⟩) hB).trans h4, (hb.cell (p := ⟨b, _, none⟩) hB).trans h5⟩
/-- As the walk spells it. -/
theorem CodeAt.sp {w : World} {b off : Nat} {l : List In} (h : CodeAt w b off l) {k : Nat} {x : In} (hx : l[k]? = some x) :
    w.cell? ⟨b, off + k * 6, none⟩ = some (.int .i64 x.op) ∧ w.cell? ⟨b, off + k * 6 + 1, none⟩ = some (.int .i64 x.A) ∧ w.cell? ⟨b, off + k * 6 + 2, none⟩ = some (.int .i64 x.B) ∧
    w.cell? ⟨b, off + k * 6 + 3, none⟩ = some (.bool x.neg) ∧ w.cell? ⟨b, off + k * 6 + 4, none⟩ = some (.string x.n) ∧ w.cell? ⟨b, off + k * 6 + 5, none⟩ = some (.string x.d) := by
  rw [Nat.mul_comm k 6]
  exact h.2 k x hx

set_option maxRecDepth 100000 in
set_option maxHeartbeats 2000000 in
theorem mcheck_some (b off c : Nat) (l : List In) (w : World) (h : CodeAt w b off l) (h0 : 0 < l.length) (hl : l.length ≤ 4096) (hT : Tab w) :
    Calls Tryz.prog 9 #[.slice (some ⟨b, off, none⟩) l.length c] w (Ret w (.int .i64 (progE l))) := by
  have H := Lib.hid h
  have HT := Lib.hid hT
  obtain ⟨n, hn⟩ : ∃ n, l.length = n := ⟨_, rfl⟩
  have HN := Lib.hid hn
  rw [hn] at h0 hl ⊢
  have hnot : ∀ (x : Bool) (w : World), (Op.unary .not (.bool x)).run Tryz.prog w = .ok (.bool (!x)) w := fun _ _ => rfl
  have t0 : ((n : Int) == 0) = false := by rw [beq_eq_false_iff_ne]; omega
  have t1 : decide (4096 < (n : Int)) = false := by simp; omega
  clear h hT hn
  go_enter Tryz.func9, Tryz.ntmps9
  go_wp2
  go_loopw [16] (fun i wr => ∃ k : Nat, k ≤ n ∧ i = .int .i64 k ∧ Hid (∀ (i : Nat) (x : In), i < k → l[i]? = some x → vldB x ((n : Int) - 1 - i) = true) ∧ Below w.heap.size w wr) (fun i _ => n - (intOf i).toNat)
  case atStart => exact ⟨0, Nat.zero_le _, rfl, fun i x hi => by omega, Below.refl _ _⟩
  case round =>
    obtain ⟨k, hk, rfl, HV, hb⟩ := hrel
    have HB := Lib.hid hb
    clear hb
    by_cases hlt : k < n
    · obtain ⟨x, hx⟩ : ∃ x, l[k]? = some x := ⟨l[k]'(by have := HN.out; omega), List.getElem?_eq_getElem (by have := HN.out; omega)⟩
      obtain ⟨c0, c1, c2, c3, c4, c5⟩ := (H.out.below HB.out H.out.1).sp hx
      have HX := Lib.hid hx
      have HVA := Lib.hid (fun W (hW : Tab W) => valid_any x ((n : Int) - 1 - (k : Int)) W hW)
      unfold inV at HVA
      clear hx
      cases hv : vldB x ((n : Int) - 1 - (k : Int)) with
      | true =>
        have HF := Lib.hid hv
        rw [hv] at HVA
        clear hv
        go_wp2_with fail
        refine (HVA.out _ (HT.out.below (HB.out.alloc HB.out.size _))).mono ?_
        rintro e w1 ⟨rfl, hb1⟩
        have HB1 := Lib.hid ((HB.out.alloc HB.out.size _).trans (hb1.mono (by have := HB.out.size; simp; omega)))
        clear hb1
        go_wp2
        go_roundw
        case rel =>
          refine ⟨k + 1, by omega, by go_num, fun i y hi hy => ?_, HB1.out⟩
          by_cases e : i = k
          · subst e
            have := HX.out
            rw [hy] at this
            cases this
            exact HF.out
          · exact HV.out i y (by omega) hy
        case measure => simp [intOf]; omega
      | false =>
        have HF := Lib.hid (progE_no (l := l) (fun h => by have := h.2.2.1 k x HX.out; rw [HN.out, hv] at this; cases this))
        rw [hv] at HVA
        clear hv
        go_wp2_with fail
        refine (HVA.out _ (HT.out.below (HB.out.alloc HB.out.size _))).mono ?_
        rintro e w1 ⟨rfl, hb1⟩
        have HB1 := Lib.hid ((HB.out.alloc HB.out.size _).trans (hb1.mono (by have := HB.out.size; simp; omega)))
        clear hb1
        go_wp2
        go_ret
        exact ⟨by rw [HF.out]; rfl, HB1.out⟩
    · obtain rfl : k = n := by omega
      obtain ⟨x, hx⟩ : ∃ x, l[k - 1]? = some x := ⟨l[k - 1]'(by have := HN.out; omega), List.getElem?_eq_getElem (by have := HN.out; omega)⟩
      have c0 := ((H.out.below HB.out H.out.1).sp hx).1
      have HX := Lib.hid hx
      clear hx
      have e1 : ((k : Int) - 1).toNat = k - 1 := by omega
      by_cases h7 : x.op = 7
      · have HF := Lib.hid (progE_ok (l := l) ⟨by have := HN.out; omega, by have := HN.out; omega, fun i y hy => by rw [HN.out]; exact HV.out i y (by have := (List.getElem?_eq_some_iff.1 hy).1; have := HN.out; omega) hy, fun y hy => by rw [HN.out, HX.out] at hy; cases hy; exact .inl h7⟩)
        rw [h7] at c0
        clear h7
        go_wp2
        go_ret
        exact ⟨by rw [HF.out]; rfl, HB.out⟩
      · have t7 : (x.op != 7) = true := by rw [bne_iff_ne]; exact h7
        by_cases h8 : x.op = 8
        · have HF := Lib.hid (progE_ok (l := l) ⟨by have := HN.out; omega, by have := HN.out; omega, fun i y hy => by rw [HN.out]; exact HV.out i y (by have := (List.getElem?_eq_some_iff.1 hy).1; have := HN.out; omega) hy, fun y hy => by rw [HN.out, HX.out] at hy; cases hy; exact .inr h8⟩)
          rw [h8] at c0
          clear h7 h8 t7
          go_wp2
          go_ret
          exact ⟨by rw [HF.out]; rfl, HB.out⟩
        · have t8 : (x.op != 8) = true := by rw [bne_iff_ne]; exact h8
          have HF := Lib.hid (progE_no (l := l) (fun h => by have := h.2.2.2 x (by rw [HN.out]; exact HX.out); omega))
          clear h7 h8
          go_wp2
          go_ret
          exact ⟨by rw [HF.out]; rfl, HB.out⟩
theorem mcheck_none (A : Option Addr) (c : Nat) (w : World) : Calls Tryz.prog 9 #[.slice A 0 c] w (Ret w (.int .i64 171)) := by
  go_enter Tryz.func9, Tryz.ntmps9
  go_wp2
  go_ret
  exact ⟨rfl, Below.refl _ _⟩
end Go.Proofs.YtoolanjbmbcaiaaGreatDoor
namespace Go.Proofs.YtoolanjbmbcaiaaGreatDoor
open Go.RowKit Bf

/-- The panic of package machine. -/
def stopPanic (k : Int) : List PanicEntry := [{ v := .iface 85 (.agg #[.int .i64 k]), recovered := false }]

/-- The cells of a state. -/
def stC (cv : Value) (day : Int) (amt : Rt) (bat : Rt) (next fuel lead : Int) (uv wv : Value) : List Value :=
  [cv, .int .i64 day, .bool amt.neg, .string (bs amt.n), .string (bs amt.d), .bool bat.neg, .string (bs bat.n), .string (bs bat.d), .int .i64 next, .int .i64 fuel, .int .i64 lead, uv, wv]
def Blk (w : World) (b : Nat) (l : List Value) (t : TypeId) : Prop := w.heap[b]? = some (.cells l.toArray t (0, 0))
theorem Blk.at {w : World} {b : Nat} {l : List Value} {t : TypeId} (h : Blk w b l t) (i : Nat) (v : Value) (hv : l[i]? = some v) : w.cell? ⟨b, i, none⟩ = some v ∧ w.frozen? ⟨b, i, none⟩ = false := by
  have h' : w.heap[b]? = some (.cells l.toArray t (0, 0)) := h
  simp [World.cell?, World.frozen?, h', hv]
theorem Blk.lt {w : World} {b : Nat} {l : List Value} {t : TypeId} (h : Blk w b l t) : b < w.heap.size := (Array.getElem?_eq_some_iff.1 h).1
theorem Blk.set {w : World} {b : Nat} {l : List Value} {t : TypeId} (h : Blk w b l t) (i : Nat) (v : Value) : Blk (w.setCell ⟨b, i, none⟩ v) b (l.set i v) t := by
  have h' : w.heap[b]? = some (.cells l.toArray t (0, 0)) := h
  unfold Blk
  simp [World.setCell, Array.getElem?_modify, h']
theorem Blk.other {w : World} {b c i : Nat} {l : List Value} {t : TypeId} (h : Blk w b l t) (hc : b ≠ c) (v : Value) : Blk (w.setCell ⟨c, i, none⟩ v) b l t := (Below.heap_setCell _ _ _ _ hc).trans h
theorem Blk.alloc {w : World} {b : Nat} {l : List Value} {t : TypeId} (h : Blk w b l t) (o : Obj) : Blk (w.alloc o) b l t := (Below.heap_alloc _ _ _ h.lt).trans h
theorem Blk.drew {w : World} {b : Nat} {l : List Value} {t : TypeId} (h : Blk w b l t) : Blk w.drew b l t := h
theorem Blk.drewN {w : World} {b : Nat} {l : List Value} {t : TypeId} (h : Blk w b l t) (n : Nat) : Blk (w.drewN n) b l t := h
theorem Blk.below {w W : World} {b B : Nat} {l : List Value} {t : TypeId} (h : Blk w b l t) (hb : Below B w W) (hB : b < B) : Blk W b l t := (hb.block b hB).trans h
theorem Blk.grown {w W : World} {b : Nat} {row : Option Nat} {l : List Value} {t : TypeId} (h : Blk w b l t) (hg : w.grownBy W row) (hr : some b ≠ row) : Blk W b l t := (hg.block b h.lt hr).trans h
theorem Blk.new (w : World) (l : List Value) (t : TypeId) : Blk (w.alloc (.cells l.toArray t)) w.heap.size l t := World.alloc_heap_new w _

theorem gr_alloc (w : World) (o : Obj) (row : Option Nat) : w.grownBy (w.alloc o) row := ⟨rfl, rfl, rfl, by simp, fun k hk _ => Below.heap_alloc _ _ _ hk⟩
theorem gr_set (w : World) (b i : Nat) (v : Value) : w.grownBy (w.setCell ⟨b, i, none⟩ v) (some b) := ⟨rfl, rfl, rfl, by simp [World.setCell], fun k _ hr => Below.heap_setCell _ _ _ _ (fun e => hr (by rw [e]))⟩
theorem gr_drewN (w : World) (n : Nat) (row : Option Nat) : w.grownBy (w.drewN n) row := ⟨rfl, rfl, rfl, Nat.le_refl _, fun _ _ _ => rfl⟩
theorem gr_drew (w : World) (row : Option Nat) : w.grownBy w.drew row := ⟨rfl, rfl, rfl, Nat.le_refl _, fun _ _ _ => rfl⟩

/-- Choices lie in memory. -/
def ChAt (w : World) (cv : Value) (ch : List Int) : Prop := ∃ A cap, cv = .slice A ch.length cap ∧ ∀ (i : Nat) (c : Int), ch[i]? = some c → ∃ b off, A = some ⟨b, off, none⟩ ∧ b < w.heap.size ∧ w.cell? ⟨b, off + i, none⟩ = some (.int .i64 c)

/-- What a step of a run leaves: a state whose next instruction is another. -/
def TestPost (w : World) (sb : Nat) (cv : Value) (day : Int) (amt bat : Rt) (next fuel lead : Int) (uv wv : Value) (e : Ending) (w' : World) : Prop :=
  e = .returned (.tuple #[]) ∧ Blk w' sb (stC cv day amt bat next fuel lead uv wv) 66 ∧ w.grownBy w' (some sb)

theorem test_end {w : World} {sb : Nat} {cv : Value} {day : Int} {amt bat : Rt} {next fuel lead : Int} {uv wv : Value} (hs : Blk w sb (stC cv day amt bat next fuel lead uv wv) 66) (o : Obj) (nq : Nat) (v : Int) :
    TestPost w sb cv day amt bat v fuel lead uv wv (.returned (.tuple #[])) (((w.alloc o).drewN nq).setCell ⟨sb, 8, none⟩ (.int .i64 v)) :=
  ⟨rfl, ((hs.alloc o).drewN nq).set 8 _, ((gr_alloc w o _).trans (gr_drewN _ _ _)).trans (gr_set _ _ _ _)⟩
theorem test_end0 {w : World} {sb : Nat} {cv : Value} {day : Int} {amt bat : Rt} {next fuel lead : Int} {uv wv : Value} (hs : Blk w sb (stC cv day amt bat next fuel lead uv wv) 66) (o : Obj) (nq : Nat) :
    TestPost w sb cv day amt bat next fuel lead uv wv (.returned (.tuple #[])) ((w.alloc o).drewN nq) :=
  ⟨rfl, (hs.alloc o).drewN nq, (gr_alloc w o _).trans (gr_drewN _ _ _)⟩

set_option maxRecDepth 100000 in
set_option maxHeartbeats 2000000 in
theorem test_day (sb : Nat) (cv : Value) (day : Int) (amt bat : Rt) (next : Nat) (fuel lead : Int) (uv wv : Value) (B : Int) (neg : Bool) (n d : ByteArray) (w : World) (hs : Blk w sb (stC cv day amt bat next fuel lead uv wv) 66) (hn : next ≤ 65536) :
    Calls Tryz.prog 37 #[.pointer (some ⟨sb, 0, none⟩), .agg #[.int .i64 1, .int .i64 (-1), .int .i64 B, .bool neg, .string n, .string d]] w (TestPost w sb cv day amt bat (if B ≤ day then (next : Int) + 1 else next) fuel lead uv wv) := by
  have HS := Lib.hid hs
  obtain ⟨q0, f0⟩ := hs.at 0 _ rfl
  obtain ⟨q1, f1⟩ := hs.at 1 _ rfl
  obtain ⟨q8, f8⟩ := hs.at 8 _ rfl
  have hlt := hs.lt
  have ne1 : ¬ w.heap.size = sb := by omega
  have ne2 : ¬ sb = w.heap.size := by omega
  clear hs
  by_cases hh : B ≤ day
  · rw [if_pos hh]
    have th : decide (B ≤ day) = true := by simpa using hh
    go_enter Tryz.func37, Tryz.ntmps37
    go_wp2
    go_quiet (fail)
    go_wp2
    go_end0
    exact test_end HS.out _ _ _
  · rw [if_neg hh]
    have th : decide (B ≤ day) = false := by simpa using hh
    go_enter Tryz.func37, Tryz.ntmps37
    go_wp2
    go_quiet (fail)
    go_wp2
    go_end0
    exact test_end0 HS.out _ _

set_option maxRecDepth 100000 in
set_option maxHeartbeats 2000000 in
theorem test_before (sb : Nat) (cv : Value) (day : Int) (amt bat : Rt) (next : Nat) (fuel lead : Int) (uv wv : Value) (B : Int) (neg : Bool) (n d : ByteArray) (w : World) (hs : Blk w sb (stC cv day amt bat next fuel lead uv wv) 66) (hn : next ≤ 65536) :
    Calls Tryz.prog 37 #[.pointer (some ⟨sb, 0, none⟩), .agg #[.int .i64 1, .int .i64 (-2), .int .i64 B, .bool neg, .string n, .string d]] w (TestPost w sb cv day amt bat (if day < B then (next : Int) + 1 else next) fuel lead uv wv) := by
  have HS := Lib.hid hs
  obtain ⟨q0, f0⟩ := hs.at 0 _ rfl
  obtain ⟨q1, f1⟩ := hs.at 1 _ rfl
  obtain ⟨q8, f8⟩ := hs.at 8 _ rfl
  have hlt := hs.lt
  have ne1 : ¬ w.heap.size = sb := by omega
  have ne2 : ¬ sb = w.heap.size := by omega
  clear hs
  by_cases hh : day < B
  · rw [if_pos hh]
    have th : decide (day < B) = true := by simpa using hh
    go_enter Tryz.func37, Tryz.ntmps37
    go_wp2
    go_quiet (fail)
    go_wp2
    go_end0
    exact test_end HS.out _ _ _
  · rw [if_neg hh]
    have th : decide (day < B) = false := by simpa using hh
    go_enter Tryz.func37, Tryz.ntmps37
    go_wp2
    go_quiet (fail)
    go_wp2
    go_end0
    exact test_end0 HS.out _ _

set_option maxRecDepth 100000 in
set_option maxHeartbeats 2000000 in
theorem test_in (sb : Nat) (cv : Value) (day : Int) (amt bat : Rt) (next : Nat) (fuel lead : Int) (uv wv : Value) (b off len cap A : Nat) (c : Int) (B : Int) (neg : Bool) (n d : ByteArray) (w : World) (hs : Blk w sb (stC cv day amt bat next fuel lead uv wv) 66) (hn : next ≤ 65536) (hcv : cv = .slice (some ⟨b, off, none⟩) len cap) (hA : A < len) (hb : b < w.heap.size) (hc : w.cell? ⟨b, off + A, none⟩ = some (.int .i64 c)) :
    Calls Tryz.prog 37 #[.pointer (some ⟨sb, 0, none⟩), .agg #[.int .i64 1, .int .i64 (A : Int), .int .i64 B, .bool neg, .string n, .string d]] w (TestPost w sb cv day amt bat (if c = B then (next : Int) + 1 else next) fuel lead uv wv) := by
  have HS := Lib.hid hs
  obtain ⟨q0, f0⟩ := hs.at 0 _ rfl
  obtain ⟨q1, f1⟩ := hs.at 1 _ rfl
  obtain ⟨q8, f8⟩ := hs.at 8 _ rfl
  have hlt := hs.lt
  have ne1 : ¬ w.heap.size = sb := by omega
  have ne2 : ¬ sb = w.heap.size := by omega
  clear hs
  subst hcv
  have hA' : (A : Int) < (len : Int) := by omega
  have tm1 : ((A : Int) == -1) = false := by rw [beq_eq_false_iff_ne]; omega
  have tm2 : ((A : Int) == -2) = false := by rw [beq_eq_false_iff_ne]; omega
  have tA : decide ((A : Int) < (len : Int)) = true := by simp; omega
  have tA2 : decide (A < len) = true := by simp; omega
  have hca : ∀ o, (w.alloc o).cell? ⟨b, off + A, none⟩ = some (.int .i64 c) := fun o => (World.cell?_alloc_lt _ _ _ hb).trans hc
  by_cases hh : c = B
  · rw [if_pos hh]
    have th : (c == B) = true := by simpa using hh
    clear hh
    go_enter Tryz.func37, Tryz.ntmps37
    go_wp2
    go_quiet (fail)
    go_wp2
    go_end0
    exact test_end HS.out _ _ _
  · rw [if_neg hh]
    have th : (c == B) = false := by simpa using hh
    clear hh
    go_enter Tryz.func37, Tryz.ntmps37
    go_wp2
    go_quiet (fail)
    go_wp2
    go_end0
    exact test_end0 HS.out _ _

set_option maxRecDepth 100000 in
set_option maxHeartbeats 2000000 in
theorem test_out (sb : Nat) (cv : Value) (day : Int) (amt bat : Rt) (next : Nat) (fuel lead : Int) (uv wv : Value) (ad : Option Addr) (len cap A : Nat) (B : Int) (neg : Bool) (n d : ByteArray) (w : World) (hs : Blk w sb (stC cv day amt bat next fuel lead uv wv) 66) (_hn : next ≤ 65536) (hcv : cv = .slice ad len cap) (hA : len ≤ A) :
    Calls Tryz.prog 37 #[.pointer (some ⟨sb, 0, none⟩), .agg #[.int .i64 1, .int .i64 (A : Int), .int .i64 B, .bool neg, .string n, .string d]] w (TestPost w sb cv day amt bat next fuel lead uv wv) := by
  have HS := Lib.hid hs
  obtain ⟨q0, f0⟩ := hs.at 0 _ rfl
  obtain ⟨q1, f1⟩ := hs.at 1 _ rfl
  obtain ⟨q8, f8⟩ := hs.at 8 _ rfl
  have hlt := hs.lt
  have ne1 : ¬ w.heap.size = sb := by omega
  have ne2 : ¬ sb = w.heap.size := by omega
  clear hs
  subst hcv
  have tm1 : ((A : Int) == -1) = false := by rw [beq_eq_false_iff_ne]; omega
  have tm2 : ((A : Int) == -2) = false := by rw [beq_eq_false_iff_ne]; omega
  have tA : decide ((A : Int) < (len : Int)) = false := by simp; omega
  have tA2 : decide (A < len) = false := by simp; omega
  go_enter Tryz.func37, Tryz.ntmps37
  go_wp2
  go_quiet (fail)
  go_wp2
  go_end0
  exact test_end0 HS.out _ _
end Go.Proofs.YtoolanjbmbcaiaaGreatDoor
namespace Go.Proofs.YtoolanjbmbcaiaaGreatDoor
open Go.RowKit Bf

theorem test_any (sb : Nat) (cv : Value) (ch : List Int) (day : Int) (amt bat : Rt) (next : Nat) (fuel lead : Int) (uv wv : Value) (A B : Int) (neg : Bool) (n d : ByteArray) (w : World) (hs : Blk w sb (stC cv day amt bat next fuel lead uv wv) 66) (hn : next ≤ 65536) (hA : -2 ≤ A) (hc : ChAt w cv ch) :
    Calls Tryz.prog 37 #[.pointer (some ⟨sb, 0, none⟩), .agg #[.int .i64 1, .int .i64 A, .int .i64 B, .bool neg, .string n, .string d]] w (TestPost w sb cv day amt bat ((if holdsI ch day ⟨1, A, B, neg, n, d⟩ then next + 1 else next : Nat) : Int) fuel lead uv wv) := by
  by_cases h1 : A = -1
  · subst h1
    have e : (((if holdsI ch day ⟨1, -1, B, neg, n, d⟩ then next + 1 else next : Nat)) : Int) = if B ≤ day then (next : Int) + 1 else next := by
      by_cases h : B ≤ day <;> simp [holdsI, h]
    rw [e]
    exact test_day sb cv day amt bat next fuel lead uv wv B neg n d w hs hn
  by_cases h2 : A = -2
  · subst h2
    have e : (((if holdsI ch day ⟨1, -2, B, neg, n, d⟩ then next + 1 else next : Nat)) : Int) = if day < B then (next : Int) + 1 else next := by
      by_cases h : day < B <;> simp [holdsI, h]
    rw [e]
    exact test_before sb cv day amt bat next fuel lead uv wv B neg n d w hs hn
  · obtain ⟨k, rfl⟩ := Int.eq_ofNat_of_zero_le (show 0 ≤ A by omega)
    obtain ⟨ad, cap, rfl, hcc⟩ := hc
    cases hk : ch[k]? with
    | none =>
      have e : (((if holdsI ch day ⟨1, (k : Int), B, neg, n, d⟩ then next + 1 else next : Nat)) : Int) = next := by
        have : holdsI ch day ⟨1, (k : Int), B, neg, n, d⟩ = false := by
          unfold holdsI
          simp only
          rw [if_neg h1, if_neg h2]
          simp [hk]
        simp [this]
      rw [e]
      exact test_out sb _ day amt bat next fuel lead uv wv ad ch.length cap k B neg n d w hs hn rfl (List.getElem?_eq_none_iff.1 hk)
    | some c =>
      obtain ⟨b, off, rfl, hb, hcell⟩ := hcc k c hk
      have e : (((if holdsI ch day ⟨1, (k : Int), B, neg, n, d⟩ then next + 1 else next : Nat)) : Int) = if c = B then (next : Int) + 1 else next := by
        have : holdsI ch day ⟨1, (k : Int), B, neg, n, d⟩ = (c == B) := by
          unfold holdsI
          simp only
          rw [if_neg h1, if_neg h2]
          simp [hk]
        rw [this]
        by_cases h : c = B <;> simp [h]
      rw [e]
      exact test_in sb _ day amt bat next fuel lead uv wv b off ch.length cap k c B neg n d w hs hn rfl (List.getElem?_eq_some_iff.1 hk).1 hb hcell

set_option maxRecDepth 100000 in
set_option maxHeartbeats 2000000 in
theorem jump_any (sb : Nat) (cv : Value) (day : Int) (amt bat : Rt) (next A : Nat) (fuel lead : Int) (uv wv : Value) (B : Int) (neg : Bool) (n d : ByteArray) (w : World) (hs : Blk w sb (stC cv day amt bat next fuel lead uv wv) 66) (hn : next ≤ 65536) (hA : A ≤ 65536) :
    Calls Tryz.prog 38 #[.pointer (some ⟨sb, 0, none⟩), .agg #[.int .i64 2, .int .i64 (A : Int), .int .i64 B, .bool neg, .string n, .string d]] w (TestPost w sb cv day amt bat ((next : Int) + (A : Int)) fuel lead uv wv) := by
  have HS := Lib.hid hs
  obtain ⟨q8, f8⟩ := hs.at 8 _ rfl
  have hlt := hs.lt
  have ne1 : ¬ w.heap.size = sb := by omega
  have ne2 : ¬ sb = w.heap.size := by omega
  have e1 : IntKind.i64.wrap ((next : Int) + (A : Int)) = (next : Int) + (A : Int) := by rw [IntKind.wrap_i64]; omega
  clear hs
  go_enter Tryz.func38, Tryz.ntmps38
  go_wp2
  go_region
  all_goals go_wp2
  all_goals go_end0
  all_goals exact ⟨rfl, ((HS.out.set 8 _).alloc _).drew, ((gr_set _ _ _ _).trans (gr_alloc _ _ _)).trans (gr_drew _ _)⟩

theorem done_any (sb : Nat) (x : In) (w : World) : Calls Tryz.prog 43 #[.pointer (some ⟨sb, 0, none⟩), inV x] w fun e w' => e = .panicked (stopPanic 0) ∧ Below w.heap.size w w' := by
  unfold inV
  go_enter Tryz.func43, Tryz.ntmps43
  go_wp2
  exact ⟨rfl, rfl, (Below.refl _ _).alloc (Nat.le_refl _) _⟩
theorem fail_any (sb : Nat) (x : In) (w : World) : Calls Tryz.prog 44 #[.pointer (some ⟨sb, 0, none⟩), inV x] w fun e w' => e = .panicked (stopPanic 160) ∧ Below w.heap.size w w' := by
  unfold inV
  go_enter Tryz.func44, Tryz.ntmps44
  go_wp2
  exact ⟨rfl, rfl, (Below.refl _ _).alloc (Nat.le_refl _) _⟩
theorem mustR_ok (neg : Bool) (n d : ByteArray) (w : World) : Calls Tryz.prog 67 #[.agg #[.bool neg, .string n, .string d], .int .i64 0] w (Ret w (.agg #[.bool neg, .string n, .string d])) := by
  go_enter Tryz.func67, Tryz.ntmps67
  go_wp2
  exact bodyPost_ret (v := .agg #[.bool neg, .string n, .string d]) (by simp [results, Tryz.results67, go_sem]) rfl ⟨rfl, ((Below.refl _ _).alloc (Nat.le_refl _) _).alloc (by simp) _⟩
theorem mustR_no (neg : Bool) (n d : ByteArray) (k : Int) (hk : k ≠ 0) (w : World) : Calls Tryz.prog 67 #[.agg #[.bool neg, .string n, .string d], .int .i64 k] w fun e w' => e = .panicked (stopPanic k) ∧ Below w.heap.size w w' := by
  have t : (k != 0) = true := by rw [bne_iff_ne]; exact hk
  clear hk
  go_enter Tryz.func67, Tryz.ntmps67
  go_wp2
  exact ⟨rfl, rfl, ((Below.refl _ _).alloc (Nat.le_refl _) _).alloc (by simp) _⟩
theorem mustI_ok (x : Int) (w : World) : Calls Tryz.prog 70 #[.int .i64 x, .int .i64 0] w fun e w' => e = .returned (.int .i64 x) ∧ w = w' := by
  go_enter Tryz.func70, Tryz.ntmps70
  go_wp2
  go_ret
  exact ⟨rfl, rfl⟩
theorem mustI_no (x k : Int) (hk : k ≠ 0) (w : World) : Calls Tryz.prog 70 #[.int .i64 x, .int .i64 k] w fun e w' => e = .panicked (stopPanic k) ∧ w = w' := by
  have t : (k != 0) = true := by rw [bne_iff_ne]; exact hk
  clear hk
  go_enter Tryz.func70, Tryz.ntmps70
  go_wp2
  exact ⟨rfl, rfl, rfl⟩
end Go.Proofs.YtoolanjbmbcaiaaGreatDoor
namespace Go.Proofs.YtoolanjbmbcaiaaGreatDoor
open Go.RowKit Bf

theorem gr_below {W W' : World} (h : Below W.heap.size W W') (row : Option Nat) : W.grownBy W' row := ⟨h.os, h.tape, h.output, h.size, fun k hk _ => h.block k hk⟩
theorem below_next {B : Nat} {w W W' : World} (h : Below B w W) (hs : B ≤ w.heap.size) (hb : Below W.heap.size W W') : Below B w W' := h.trans (hb.mono (Nat.le_trans hs h.size))

/-- The cells that load reads. -/
def LoadS (sb h : Nat) (amt : Rt) (neg : Bool) (n d : ByteArray) (W : World) : Prop :=
  W.cell? ⟨sb, 2, none⟩ = some (.bool amt.neg) ∧ W.cell? ⟨sb, 3, none⟩ = some (.string (bs amt.n)) ∧ W.cell? ⟨sb, 4, none⟩ = some (.string (bs amt.d)) ∧
  W.cell? ⟨h, 3, none⟩ = some (.bool neg) ∧ W.cell? ⟨h, 4, none⟩ = some (.string n) ∧ W.cell? ⟨h, 5, none⟩ = some (.string d)
theorem keep_cell {W W' : World} {p : Addr} {v : Value} (h : W.cell? p = some v) (hb : Below W.heap.size W W') : W'.cell? p = some v := (hb.cell (World.block_lt_of_cell? W p h)).trans h
theorem LoadS.next {sb h : Nat} {amt : Rt} {neg : Bool} {n d : ByteArray} {W W' : World} (s : LoadS sb h amt neg n d W) (hb : Below W.heap.size W W') : LoadS sb h amt neg n d W' :=
  ⟨keep_cell s.1 hb, keep_cell s.2.1 hb, keep_cell s.2.2.1 hb, keep_cell s.2.2.2.1 hb, keep_cell s.2.2.2.2.1 hb, keep_cell s.2.2.2.2.2 hb⟩
theorem cell_set_ne {W : World} {b i j c : Nat} {v u : Value} (h : W.cell? ⟨c, j, none⟩ = some v) (hne : ¬ (c = b ∧ j = i)) : (W.setCell ⟨b, i, none⟩ u).cell? ⟨c, j, none⟩ = some v :=
  (World.cell?_setCell_other W ⟨b, i, none⟩ ⟨c, j, none⟩ u (fun e => hne (by cases e; exact ⟨rfl, rfl⟩))).trans h
theorem LoadS.set {sb h : Nat} {amt : Rt} {neg : Bool} {n d : ByteArray} {W : World} (s : LoadS sb h amt neg n d W) (hne : h ≠ sb) (j : Nat) (hj : 5 ≤ j) (u : Value) : LoadS sb h amt neg n d (W.setCell ⟨sb, j, none⟩ u) :=
  ⟨cell_set_ne s.1 (by omega), cell_set_ne s.2.1 (by omega), cell_set_ne s.2.2.1 (by omega), cell_set_ne s.2.2.2.1 (by omega), cell_set_ne s.2.2.2.2.1 (by omega), cell_set_ne s.2.2.2.2.2 (by omega)⟩

def LoadPost (w : World) (sb : Nat) (cv : Value) (day : Int) (amt : Rt) (o : Option Rt) (bat : Rt) (next fuel lead B : Int) (uv wv : Value) (e : Ending) (w' : World) : Prop :=
  (match o with
   | some q => e = .returned (.tuple #[]) ∧ Blk w' sb (stC cv day amt q next fuel B uv wv) 66
   | none => e = .panicked (stopPanic 2) ∧ Blk w' sb (stC cv day amt bat next fuel lead uv wv) 66) ∧ w.grownBy w' (some sb)

set_option maxRecDepth 100000 in
set_option maxHeartbeats 2000000 in
theorem load_any (sb : Nat) (cv : Value) (day : Int) (amt bat r : Rt) (next fuel lead : Int) (uv wv : Value) (A B : Int) (w : World) (hs : Blk w sb (stC cv day amt bat next fuel lead uv wv) 66) (ha : amt.ok) (hr : r.ok) (h0 : r.n ≠ 0) (hT : Tab w) :
    Calls Tryz.prog 39 #[.pointer (some ⟨sb, 0, none⟩), .agg #[.int .i64 3, .int .i64 A, .int .i64 B, .bool r.neg, .string (bs r.n), .string (bs r.d)]] w (LoadPost w sb cv day amt (divR amt r) bat next fuel lead B uv wv) := by
  have HD := Lib.hid (fun W (hW : Tab W) => rdiv_any amt r W ha hr h0 hW)
  have HT := Lib.hid hT
  have hlt := hs.lt
  have HS := Lib.hid hs
  clear hs ha hr h0 hT
  generalize divR amt r = o at *
  unfold ratV at HD
  have ne1 : ¬ w.heap.size = sb := by omega
  have ne2 : ¬ sb = w.heap.size := by omega
  cases o
  all_goals simp only [calcV] at HD
  case none =>
    go_enter Tryz.func39, Tryz.ntmps39
    go_wp2
    obtain ⟨W0, hW0⟩ : ∃ W0, w.alloc (.cells #[.int .i64 3, .int .i64 A, .int .i64 B, .bool r.neg, .string (bs r.n), .string (bs r.d)] 40) = W0 := ⟨_, rfl⟩
    have K0 : Blk W0.drew sb (stC cv day amt bat next fuel lead uv wv) 66 := by rw [← hW0]; exact (HS.out.alloc _).drew
    have L0 : Blk W0.drew w.heap.size [.int .i64 3, .int .i64 A, .int .i64 B, .bool r.neg, .string (bs r.n), .string (bs r.d)] 40 := by rw [← hW0]; exact (Blk.new w _ _).drew
    have T0 : Tab W0.drew := by rw [← hW0]; exact (HT.out.below ((Below.refl w.heap.size w).alloc (Nat.le_refl _) _)).drew
    have G0 : w.grownBy W0.drew (some sb) := by rw [← hW0]; exact (gr_alloc _ _ _).trans (gr_drew _ _)
    have S0 : LoadS sb w.heap.size amt r.neg (bs r.n) (bs r.d) W0.drew := ⟨(K0.at 2 _ rfl).1, (K0.at 3 _ rfl).1, (K0.at 4 _ rfl).1, (L0.at 3 _ rfl).1, (L0.at 4 _ rfl).1, (L0.at 5 _ rfl).1⟩
    rw [hW0]
    have HG0 := Lib.hid G0
    have HK0 := Lib.hid K0
    have HL0 := Lib.hid L0
    have HT0 := Lib.hid T0
    clear hW0 G0 K0 L0 T0
    -- <no>
    refine wp_region_held_drew (S := (fun w' => w'.cell? ⟨sb, 2, none⟩ = some (.bool amt.neg) ∧ w'.cell? ⟨sb, 3, none⟩ = some (.string (bs amt.n)) ∧ w'.cell? ⟨sb, 4, none⟩ = some (.string (bs amt.d)) ∧ w'.cell? ⟨w.heap.size, 3, none⟩ = some (.bool r.neg) ∧ w'.cell? ⟨w.heap.size, 4, none⟩ = some (.string (bs r.n)) ∧ w'.cell? ⟨w.heap.size, 5, none⟩ = some (.string (bs r.d)))) (by kernel_rfl) ?_ (fun hHeld => ?_)
    · exact S0
    refine rp_take (i := 0) (v := ?_) rfl (by kernel_rfl) (by kernel_rfl) (by kernel_rfl) (by rfl) (by assumption) ?_ (by exact fun _ _ _ h => h) ?_
    rotate_left
    · (intro w hSw; (try dsimp only at hSw); go_simp; try (with_reducible rfl))
    (try simp only [Act.put, List.setIfInBounds_toArray, List.set_cons_zero, List.set_cons_succ])
    refine rp_take (i := 1) (v := ?_) rfl (by kernel_rfl) (by kernel_rfl) (by kernel_rfl) (by rfl) (by assumption) ?_ (by exact fun _ _ _ h => h) ?_
    rotate_left
    · (intro w hSw; (try dsimp only at hSw); go_simp; try (with_reducible rfl))
    (try simp only [Act.put, List.setIfInBounds_toArray, List.set_cons_zero, List.set_cons_succ])
    refine rp_take (i := 2) (v := ?_) rfl (by kernel_rfl) (by kernel_rfl) (by kernel_rfl) (by rfl) (by assumption) ?_ (by exact fun _ _ _ h => h) ?_
    rotate_left
    · (intro w hSw; (try dsimp only at hSw); go_simp; try (with_reducible rfl))
    (try simp only [Act.put, List.setIfInBounds_toArray, List.set_cons_zero, List.set_cons_succ])
    refine rp_take (i := 3) (v := ?_) rfl (by kernel_rfl) (by kernel_rfl) (by kernel_rfl) (by rfl) (by assumption) ?_ (by exact fun _ _ _ h => h) ?_
    rotate_left
    · (intro w hSw; (try dsimp only at hSw); go_simp; try (with_reducible rfl))
    (try simp only [Act.put, List.setIfInBounds_toArray, List.set_cons_zero, List.set_cons_succ])
    refine rp_take (i := 4) (v := ?_) rfl (by kernel_rfl) (by kernel_rfl) (by kernel_rfl) (by rfl) (by assumption) ?_ (by exact fun _ _ _ h => h) ?_
    rotate_left
    · (intro w hSw; (try dsimp only at hSw); go_simp; try (with_reducible rfl))
    (try simp only [Act.put, List.setIfInBounds_toArray, List.set_cons_zero, List.set_cons_succ])
    refine rp_take (i := 5) (v := ?_) rfl (by kernel_rfl) (by kernel_rfl) (by kernel_rfl) (by rfl) (by assumption) ?_ (by exact fun _ _ _ h => h) ?_
    rotate_left
    · (intro w hSw; (try dsimp only at hSw); go_simp; try (with_reducible rfl))
    (try simp only [Act.put, List.setIfInBounds_toArray, List.set_cons_zero, List.set_cons_succ])
    refine rp_take (i := 6) (v := ?_) rfl (by kernel_rfl) (by kernel_rfl) (by kernel_rfl) (by rfl) (by assumption) ?_ (by exact fun _ _ _ h => h) ?_
    rotate_left
    · (intro w hSw; (try dsimp only at hSw); go_simp; try (with_reducible rfl))
    (try simp only [Act.put, List.setIfInBounds_toArray, List.set_cons_zero, List.set_cons_succ])
    refine wpAnyH_ready (rs := [7]) (by kernel_rfl) (by simp) ?_
    refine rh_cons (i := 7) rfl (fun K hK => ?_) ?_
    · go_simp
      refine (HD.out _ HT0.out).mono ?_
      rintro e w1 ⟨rfl, hb1⟩
      have HB1 := Lib.hid hb1
      have S1 := LoadS.next hHeld hb1
      clear hb1
      go_wp2_with fail
      refine hK.out _ _ ?_ (fun hHeld => ?_)
      · (try dsimp only)
        exact S1
      clear hK K
      (try simp only [Act.put, List.setIfInBounds_toArray, List.set_cons_zero, List.set_cons_succ])
      refine rp_take (i := 8) (v := ?_) rfl (by kernel_rfl) (by kernel_rfl) (by kernel_rfl) (by rfl) (by assumption) ?_ (by exact fun _ _ _ h => h) ?_
      rotate_left
      · (intro w hSw; (try dsimp only at hSw); go_simp; try (with_reducible rfl))
      (try simp only [Act.put, List.setIfInBounds_toArray, List.set_cons_zero, List.set_cons_succ])
      refine rp_take (i := 9) (v := ?_) rfl (by kernel_rfl) (by kernel_rfl) (by kernel_rfl) (by rfl) (by assumption) ?_ (by exact fun _ _ _ h => h) ?_
      rotate_left
      · (intro w hSw; (try dsimp only at hSw); go_simp; try (with_reducible rfl))
      (try simp only [Act.put, List.setIfInBounds_toArray, List.set_cons_zero, List.set_cons_succ])
      refine wpAnyH_ready (rs := [10]) (by kernel_rfl) (by simp) ?_
      refine rh_cons (i := 10) rfl (fun K hK => ?_) ?_
      · go_simp
        refine (mustR_no _ _ _ 2 (by omega) _).mono ?_
        rintro e w2 ⟨rfl, hb2⟩
        have HB2 := Lib.hid (below_next HB1.out (Nat.le_refl _) hb2)
        exact ⟨rfl, ⟨rfl, HK0.out.below HB2.out HK0.out.lt⟩, HG0.out.trans (gr_below HB2.out _)⟩
      exact AllReadyH.nil
    exact AllReadyH.nil
    -- </no>
  case some q =>
    go_enter Tryz.func39, Tryz.ntmps39
    go_wp2
    obtain ⟨W0, hW0⟩ : ∃ W0, w.alloc (.cells #[.int .i64 3, .int .i64 A, .int .i64 B, .bool r.neg, .string (bs r.n), .string (bs r.d)] 40) = W0 := ⟨_, rfl⟩
    have K0 : Blk W0.drew sb (stC cv day amt bat next fuel lead uv wv) 66 := by rw [← hW0]; exact (HS.out.alloc _).drew
    have L0 : Blk W0.drew w.heap.size [.int .i64 3, .int .i64 A, .int .i64 B, .bool r.neg, .string (bs r.n), .string (bs r.d)] 40 := by rw [← hW0]; exact (Blk.new w _ _).drew
    have T0 : Tab W0.drew := by rw [← hW0]; exact (HT.out.below ((Below.refl w.heap.size w).alloc (Nat.le_refl _) _)).drew
    have G0 : w.grownBy W0.drew (some sb) := by rw [← hW0]; exact (gr_alloc _ _ _).trans (gr_drew _ _)
    have S0 : LoadS sb w.heap.size amt r.neg (bs r.n) (bs r.d) W0.drew := ⟨(K0.at 2 _ rfl).1, (K0.at 3 _ rfl).1, (K0.at 4 _ rfl).1, (L0.at 3 _ rfl).1, (L0.at 4 _ rfl).1, (L0.at 5 _ rfl).1⟩
    rw [hW0]
    have HG0 := Lib.hid G0
    have HK0 := Lib.hid K0
    have HL0 := Lib.hid L0
    have HT0 := Lib.hid T0
    clear hW0 G0 K0 L0 T0
    -- <ok>
    refine wp_region_held_drew (S := (fun w' => w'.cell? ⟨sb, 2, none⟩ = some (.bool amt.neg) ∧ w'.cell? ⟨sb, 3, none⟩ = some (.string (bs amt.n)) ∧ w'.cell? ⟨sb, 4, none⟩ = some (.string (bs amt.d)) ∧ w'.cell? ⟨w.heap.size, 3, none⟩ = some (.bool r.neg) ∧ w'.cell? ⟨w.heap.size, 4, none⟩ = some (.string (bs r.n)) ∧ w'.cell? ⟨w.heap.size, 5, none⟩ = some (.string (bs r.d)))) (by kernel_rfl) ?_ (fun hHeld => ?_)
    · exact S0
    refine rp_take (i := 0) (v := ?_) rfl (by kernel_rfl) (by kernel_rfl) (by kernel_rfl) (by rfl) (by assumption) ?_ (by exact fun _ _ _ h => h) ?_
    rotate_left
    · (intro w hSw; (try dsimp only at hSw); go_simp; try (with_reducible rfl))
    (try simp only [Act.put, List.setIfInBounds_toArray, List.set_cons_zero, List.set_cons_succ])
    refine rp_take (i := 1) (v := ?_) rfl (by kernel_rfl) (by kernel_rfl) (by kernel_rfl) (by rfl) (by assumption) ?_ (by exact fun _ _ _ h => h) ?_
    rotate_left
    · (intro w hSw; (try dsimp only at hSw); go_simp; try (with_reducible rfl))
    (try simp only [Act.put, List.setIfInBounds_toArray, List.set_cons_zero, List.set_cons_succ])
    refine rp_take (i := 2) (v := ?_) rfl (by kernel_rfl) (by kernel_rfl) (by kernel_rfl) (by rfl) (by assumption) ?_ (by exact fun _ _ _ h => h) ?_
    rotate_left
    · (intro w hSw; (try dsimp only at hSw); go_simp; try (with_reducible rfl))
    (try simp only [Act.put, List.setIfInBounds_toArray, List.set_cons_zero, List.set_cons_succ])
    refine rp_take (i := 3) (v := ?_) rfl (by kernel_rfl) (by kernel_rfl) (by kernel_rfl) (by rfl) (by assumption) ?_ (by exact fun _ _ _ h => h) ?_
    rotate_left
    · (intro w hSw; (try dsimp only at hSw); go_simp; try (with_reducible rfl))
    (try simp only [Act.put, List.setIfInBounds_toArray, List.set_cons_zero, List.set_cons_succ])
    refine rp_take (i := 4) (v := ?_) rfl (by kernel_rfl) (by kernel_rfl) (by kernel_rfl) (by rfl) (by assumption) ?_ (by exact fun _ _ _ h => h) ?_
    rotate_left
    · (intro w hSw; (try dsimp only at hSw); go_simp; try (with_reducible rfl))
    (try simp only [Act.put, List.setIfInBounds_toArray, List.set_cons_zero, List.set_cons_succ])
    refine rp_take (i := 5) (v := ?_) rfl (by kernel_rfl) (by kernel_rfl) (by kernel_rfl) (by rfl) (by assumption) ?_ (by exact fun _ _ _ h => h) ?_
    rotate_left
    · (intro w hSw; (try dsimp only at hSw); go_simp; try (with_reducible rfl))
    (try simp only [Act.put, List.setIfInBounds_toArray, List.set_cons_zero, List.set_cons_succ])
    refine rp_take (i := 6) (v := ?_) rfl (by kernel_rfl) (by kernel_rfl) (by kernel_rfl) (by rfl) (by assumption) ?_ (by exact fun _ _ _ h => h) ?_
    rotate_left
    · (intro w hSw; (try dsimp only at hSw); go_simp; try (with_reducible rfl))
    (try simp only [Act.put, List.setIfInBounds_toArray, List.set_cons_zero, List.set_cons_succ])
    refine wpAnyH_ready (rs := [7]) (by kernel_rfl) (by simp) ?_
    refine rh_cons (i := 7) rfl (fun K hK => ?_) ?_
    · go_simp
      refine (HD.out _ HT0.out).mono ?_
      rintro e w1 ⟨rfl, hb1⟩
      have HB1 := Lib.hid hb1
      have S1 := LoadS.next hHeld hb1
      clear hb1
      go_wp2_with fail
      refine hK.out _ _ ?_ (fun hHeld => ?_)
      · (try dsimp only)
        exact S1
      clear hK K
      (try simp only [Act.put, List.setIfInBounds_toArray, List.set_cons_zero, List.set_cons_succ])
      refine rp_take (i := 8) (v := ?_) rfl (by kernel_rfl) (by kernel_rfl) (by kernel_rfl) (by rfl) (by assumption) ?_ (by exact fun _ _ _ h => h) ?_
      rotate_left
      · (intro w hSw; (try dsimp only at hSw); go_simp; try (with_reducible rfl))
      (try simp only [Act.put, List.setIfInBounds_toArray, List.set_cons_zero, List.set_cons_succ])
      refine rp_take (i := 9) (v := ?_) rfl (by kernel_rfl) (by kernel_rfl) (by kernel_rfl) (by rfl) (by assumption) ?_ (by exact fun _ _ _ h => h) ?_
      rotate_left
      · (intro w hSw; (try dsimp only at hSw); go_simp; try (with_reducible rfl))
      (try simp only [Act.put, List.setIfInBounds_toArray, List.set_cons_zero, List.set_cons_succ])
      refine wpAnyH_ready (rs := [10]) (by kernel_rfl) (by simp) ?_
      refine rh_cons (i := 10) rfl (fun K hK => ?_) ?_
      · go_simp
        refine (mustR_ok _ _ _ _).mono ?_
        rintro e w2 ⟨rfl, hb2⟩
        have HB2 := Lib.hid (below_next HB1.out (Nat.le_refl _) hb2)
        have S1 := LoadS.next hHeld hb2
        clear hb2
        have K2 := HK0.out.below HB2.out HK0.out.lt
        have L2 := HL0.out.below HB2.out HL0.out.lt
        obtain ⟨q5, f5⟩ := K2.at 5 _ rfl
        obtain ⟨q6, f6⟩ := K2.at 6 _ rfl
        obtain ⟨q7, f7⟩ := K2.at 7 _ rfl
        obtain ⟨q10, f10⟩ := K2.at 10 _ rfl
        obtain ⟨p2, g2⟩ := L2.at 2 _ rfl
        have HK2 := Lib.hid K2
        clear K2 L2
        go_wp2_with fail
        refine hK.out _ _ ?_ (fun hHeld => ?_)
        · (try dsimp only)
          exact S1
        clear hK K
        (try simp only [Act.put, List.setIfInBounds_toArray, List.set_cons_zero, List.set_cons_succ])
        refine rp_take (i := 11) (v := ?_) rfl (by kernel_rfl) (by kernel_rfl) (by kernel_rfl) (by rfl) (by assumption) ?_ (by exact fun _ _ _ h => h) ?_
        rotate_left
        · (intro w hSw; (try dsimp only at hSw); go_simp; try (with_reducible rfl))
        (try simp only [Act.put, List.setIfInBounds_toArray, List.set_cons_zero, List.set_cons_succ])
        refine rp_take (i := 12) (v := ?_) rfl (by kernel_rfl) (by kernel_rfl) (by kernel_rfl) (by rfl) (by assumption) ?_ (by exact fun _ _ _ h => h) ?_
        rotate_left
        · (intro w hSw; (try dsimp only at hSw); go_simp; try (with_reducible rfl))
        (try simp only [Act.put, List.setIfInBounds_toArray, List.set_cons_zero, List.set_cons_succ])
        refine wpAnyH_ready (rs := [13]) (by kernel_rfl) (by simp) ?_
        refine rh_cons (i := 13) rfl (fun K hK => ?_) ?_
        · go_simp
          have S1 := ((LoadS.set hHeld ne1 5 (by omega) (.bool q.neg)).set ne1 6 (by omega) (.string (bs q.n))).set ne1 7 (by omega) (.string (bs q.d))
          refine hK.out _ _ ?_ (fun hHeld => ?_)
          · (try dsimp only)
            exact S1
          clear hK K
          (try simp only [Act.put, List.setIfInBounds_toArray, List.set_cons_zero, List.set_cons_succ])
          refine wpAnyH_done (by kernel_rfl) ?_ _
          go_wp2
          go_end0
          exact ⟨⟨rfl, (((HK2.out.set 5 _).set 6 _).set 7 _).set 10 _⟩, ((((HG0.out.trans (gr_below HB2.out _)).trans (gr_set _ _ _ _)).trans (gr_set _ _ _ _)).trans (gr_set _ _ _ _)).trans (gr_set _ _ _ _)⟩
        exact AllReadyH.nil
      exact AllReadyH.nil
    exact AllReadyH.nil
    -- </ok>
end Go.Proofs.YtoolanjbmbcaiaaGreatDoor
namespace Go.Proofs.YtoolanjbmbcaiaaGreatDoor
open Go.RowKit Bf

/-- At most two blocks that were there have changed. -/
structure Grown2 (w w' : World) (r1 r2 : Option Nat) : Prop where
  os : w'.os = w.os
  tape : w'.tape = w.tape
  output : w'.output = w.output
  size : w.heap.size ≤ w'.heap.size
  block : ∀ k, k < w.heap.size → some k ≠ r1 → some k ≠ r2 → w'.heap[k]? = w.heap[k]?
theorem Grown2.of {w w' : World} {r : Option Nat} (h : w.grownBy w' r) (r2 : Option Nat) : Grown2 w w' r r2 := ⟨h.os, h.tape, h.output, h.size, fun k hk h1 _ => h.block k hk h1⟩
theorem Grown2.of' {w w' : World} {r : Option Nat} (h : w.grownBy w' r) (r1 : Option Nat) : Grown2 w w' r1 r := ⟨h.os, h.tape, h.output, h.size, fun k hk _ h2 => h.block k hk h2⟩
theorem Grown2.trans {a b c : World} {r1 r2 : Option Nat} (h : Grown2 a b r1 r2) (k : Grown2 b c r1 r2) : Grown2 a c r1 r2 :=
  ⟨k.os.trans h.os, k.tape.trans h.tape, k.output.trans h.output, Nat.le_trans h.size k.size, fun i hi h1 h2 => (k.block i (Nat.lt_of_lt_of_le hi h.size) h1 h2).trans (h.block i hi h1 h2)⟩
theorem owns_of {w w' : World} {B n size : Nat} {e : TypeId} {v : Value} {xs : List Value} (h : w.ownsRow B e size v n xs) (hb : ∀ g, v.ownBlock = some g → w'.heap[g]? = w.heap[g]?) : w'.ownsRow B e size v n xs := by
  refine ⟨h.1, ?_⟩
  rcases h.2 with h0 | ⟨g, cap, cur, rfl, h1, h2, h3⟩
  · exact .inl h0
  · exact .inr ⟨g, cap, cur, rfl, h1, (hb g rfl).trans h2, h3⟩
theorem owns_lt {w : World} {B n size : Nat} {e : TypeId} {v : Value} {xs : List Value} (h : w.ownsRow B e size v n xs) {g : Nat} (hg : v.ownBlock = some g) : g < w.heap.size := by
  rcases h.2 with ⟨rfl, _⟩ | ⟨g', cap, cur, rfl, h1, h2, h3⟩
  · cases hg
  · have : g' = g := Option.some.inj hg
    subst this
    exact (Array.getElem?_eq_some_iff.1 h2).1

theorem owns_slice {w : World} {B n size : Nat} {e : TypeId} {v : Value} {xs : List Value} (h : w.ownsRow B e size v n xs) : ∃ A c, v = .slice A n c := by
  rcases h.2 with ⟨rfl, rfl⟩ | ⟨g, cap, cur, rfl, _⟩
  · exact ⟨_, _, rfl⟩
  · exact ⟨_, _, rfl⟩
theorem reads_new {W : World} {b : Nat} {l : List Value} {t : TypeId} {size : Nat} (h : Blk W b l t) (hl : l.length = 1 * size := by rfl) : Reads W (b + 1) size (some ⟨b, 0, none⟩) 1 l := by
  refine ⟨hl, fun _ => ⟨_, rfl, by simp, fun j u hu => ?_⟩⟩
  have e : (⟨b, 0, none⟩ : Addr).add j = ⟨b, j, none⟩ := by unfold Addr.add; split <;> simp_all
  rw [e]
  exact (h.at j u hu).1

def useV (u : UseR) : List Value := [.int .i64 u.item, .bool u.amt.neg, .string (bs u.amt.n), .string (bs u.amt.d), .bool u.out, .bool u.back]
def useC (us : List UseR) : List Value := us.flatMap useV
theorem useC_snoc (us : List UseR) (u : UseR) : useC (us ++ [u]) = useC us ++ useV u := by simp [useC]

theorem use_info : (Tryz.prog.info? 58).map (fun i => (i.zero, i.size, i.bytes)) = some (some (.agg #[.int .i64 0, .bool false, .string ⟨#[]⟩, .string ⟨#[]⟩, .bool false, .bool false]), 6, 56) := by kernel_rfl
theorem work_info : (Tryz.prog.info? 60).map (fun i => (i.zero, i.size, i.bytes)) = some (some (.agg #[.int .i64 0, .int .i64 0]), 2, 16) := by kernel_rfl

/-- The cells that use reads. -/
def UseS (sb h : Nat) (bat : Rt) (A B : Int) (neg : Bool) (n d : ByteArray) (W : World) : Prop :=
  W.cell? ⟨h, 1, none⟩ = some (.int .i64 A) ∧ W.cell? ⟨h, 2, none⟩ = some (.int .i64 B) ∧ W.cell? ⟨h, 3, none⟩ = some (.bool neg) ∧ W.cell? ⟨h, 4, none⟩ = some (.string n) ∧ W.cell? ⟨h, 5, none⟩ = some (.string d) ∧
  W.cell? ⟨sb, 5, none⟩ = some (.bool bat.neg) ∧ W.cell? ⟨sb, 6, none⟩ = some (.string (bs bat.n)) ∧ W.cell? ⟨sb, 7, none⟩ = some (.string (bs bat.d))
section
variable {sb h : Nat} {bat : Rt} {A B : Int} {neg : Bool} {n d : ByteArray} {W W' : World}
theorem UseS.next (s : UseS sb h bat A B neg n d W) (hb : Below W.heap.size W W') : UseS sb h bat A B neg n d W' := by
  obtain ⟨s1, s2, s3, s4, s5, s6, s7, s8⟩ := s
  exact ⟨keep_cell s1 hb, keep_cell s2 hb, keep_cell s3 hb, keep_cell s4 hb, keep_cell s5 hb, keep_cell s6 hb, keep_cell s7 hb, keep_cell s8 hb⟩
theorem UseS.grown {row : Option Nat} (s : UseS sb h bat A B neg n d W) (hg : W.grownBy W' row) (h1 : some sb ≠ row) (h2 : some h ≠ row) : UseS sb h bat A B neg n d W' := by
  obtain ⟨s1, s2, s3, s4, s5, s6, s7, s8⟩ := s
  exact ⟨hg.cell s1 h2, hg.cell s2 h2, hg.cell s3 h2, hg.cell s4 h2, hg.cell s5 h2, hg.cell s6 h1, hg.cell s7 h1, hg.cell s8 h1⟩
theorem UseS.set (s : UseS sb h bat A B neg n d W) (_hne : h ≠ sb) (j : Nat) (hj : 8 ≤ j) (u : Value) : UseS sb h bat A B neg n d (W.setCell ⟨sb, j, none⟩ u) := by
  obtain ⟨s1, s2, s3, s4, s5, s6, s7, s8⟩ := s
  exact ⟨cell_set_ne s1 (by omega), cell_set_ne s2 (by omega), cell_set_ne s3 (by omega), cell_set_ne s4 (by omega), cell_set_ne s5 (by omega), cell_set_ne s6 (by omega), cell_set_ne s7 (by omega), cell_set_ne s8 (by omega)⟩
end

def UsePost (B0 : Nat) (w : World) (sb : Nat) (cv : Value) (day : Int) (amt bat : Rt) (next fuel lead : Int) (uv wv : Value) (us : List UseR) (o : Option UseR) (e : Ending) (w' : World) : Prop :=
  match o with
  | some u => e = .returned (.tuple #[]) ∧ ∃ uv', Blk w' sb (stC cv day amt bat next fuel lead uv' wv) 66 ∧ w'.ownsRow B0 58 6 uv' (us.length + 1) (useC (us ++ [u])) ∧ (uv'.ownBlock = uv.ownBlock ∨ ∃ g, uv'.ownBlock = some g ∧ w.heap.size < g) ∧ Grown2 w w' (some sb) uv.ownBlock
  | none => e = .panicked (stopPanic 2) ∧ Blk w' sb (stC cv day amt bat next fuel lead uv wv) 66 ∧ Grown2 w w' (some sb) uv.ownBlock

set_option maxRecDepth 100000 in
set_option maxHeartbeats 4000000 in
theorem use_any (B0 sb : Nat) (cv : Value) (day : Int) (amt bat r : Rt) (next fuel lead : Int) (uv wv : Value) (us : List UseR) (A B : Int) (w : World) (hs : Blk w sb (stC cv day amt bat next fuel lead uv wv) 66)
    (hu : w.ownsRow B0 58 6 uv us.length (useC us)) (hn : us.length ≤ 65536) (hB : B0 ≤ w.heap.size) (hus : uv.ownBlock ≠ some sb) (ha : bat.ok) (hr : r.ok) (hT : Tab w) :
    Calls Tryz.prog 40 #[.pointer (some ⟨sb, 0, none⟩), .agg #[.int .i64 4, .int .i64 A, .int .i64 B, .bool r.neg, .string (bs r.n), .string (bs r.d)]] w (UsePost B0 w sb cv day amt bat next fuel lead uv wv us ((mulR r bat).map fun q => ⟨A, q, false, (B == 1)⟩)) := by
  have HD := Lib.hid (fun W (hW : Tab W) => rmul_any r bat W hr ha hW)
  have HT := Lib.hid hT
  have HU := Lib.hid hu
  have hlt := hs.lt
  have HS := Lib.hid hs
  have hu1 : Hid (some sb ≠ uv.ownBlock) := fun e => hus e.symm
  have hu2 : Hid (some w.heap.size ≠ uv.ownBlock) := fun e => by have := owns_lt hu e.symm; omega
  obtain ⟨i0, hi0, hz0, hz1, hz2⟩ := info_parts use_info
  clear hs ha hr hT hu hus
  generalize mulR r bat = o at *
  unfold ratV at HD
  have ne1 : ¬ w.heap.size = sb := by omega
  have ne2 : ¬ sb = w.heap.size := by omega
  cases o
  all_goals simp only [calcV, Option.map] at HD ⊢
  case none =>
    go_enter Tryz.func40, Tryz.ntmps40
    go_wp2
    obtain ⟨W0, hW0⟩ : ∃ W0, w.alloc (.cells #[.int .i64 4, .int .i64 A, .int .i64 B, .bool r.neg, .string (bs r.n), .string (bs r.d)] 40) = W0 := ⟨_, rfl⟩
    have K0 : Blk W0.drew sb (stC cv day amt bat next fuel lead uv wv) 66 := by rw [← hW0]; exact (HS.out.alloc _).drew
    have L0 : Blk W0.drew w.heap.size [.int .i64 4, .int .i64 A, .int .i64 B, .bool r.neg, .string (bs r.n), .string (bs r.d)] 40 := by rw [← hW0]; exact (Blk.new w _ _).drew
    have T0 : Tab W0.drew := by rw [← hW0]; exact (HT.out.below ((Below.refl w.heap.size w).alloc (Nat.le_refl _) _)).drew
    have G0 : w.grownBy W0.drew (some sb) := by rw [← hW0]; exact (gr_alloc _ _ _).trans (gr_drew _ _)
    have Z0 : W0.drew.heap.size = w.heap.size + 1 := by rw [← hW0]; show (w.alloc _).heap.size = _; simp
    have S0 : UseS sb w.heap.size bat A B r.neg (bs r.n) (bs r.d) W0.drew := ⟨(L0.at 1 _ rfl).1, (L0.at 2 _ rfl).1, (L0.at 3 _ rfl).1, (L0.at 4 _ rfl).1, (L0.at 5 _ rfl).1, (K0.at 5 _ rfl).1, (K0.at 6 _ rfl).1, (K0.at 7 _ rfl).1⟩
    have U0 : W0.drew.ownsRow B0 58 6 uv us.length (useC us) := owns_of HU.out (fun g hg => by rw [← hW0]; exact Below.heap_alloc _ _ _ (owns_lt HU.out hg))
    obtain ⟨q11, f11⟩ := K0.at 11 _ rfl
    rw [hW0]
    have HG0 := Lib.hid G0
    have HK0 := Lib.hid K0
    have HT0 := Lib.hid T0
    have HU0 := Lib.hid U0
    have HZ0 := Lib.hid Z0
    have HB0 := Lib.hid (Below.refl W0.drew.heap.size W0.drew)
    clear hW0 G0 K0 L0 T0 U0 Z0
    -- <useno>
    refine wp_region_held_drew (S := (fun w' => w'.cell? ⟨w.heap.size, 1, none⟩ = some (.int .i64 A) ∧ w'.cell? ⟨w.heap.size, 2, none⟩ = some (.int .i64 B) ∧ w'.cell? ⟨w.heap.size, 3, none⟩ = some (.bool r.neg) ∧ w'.cell? ⟨w.heap.size, 4, none⟩ = some (.string (bs r.n)) ∧ w'.cell? ⟨w.heap.size, 5, none⟩ = some (.string (bs r.d)) ∧ w'.cell? ⟨sb, 5, none⟩ = some (.bool bat.neg) ∧ w'.cell? ⟨sb, 6, none⟩ = some (.string (bs bat.n)) ∧ w'.cell? ⟨sb, 7, none⟩ = some (.string (bs bat.d)))) (by kernel_rfl) ?_ (fun hHeld => ?_)
    · exact S0
    refine rp_take (i := 0) (v := ?_) rfl (by kernel_rfl) (by kernel_rfl) (by kernel_rfl) (by rfl) (by assumption) ?_ (by exact fun _ _ _ h => h) ?_
    rotate_left
    · (intro w hSw; (try dsimp only at hSw); go_simp; try (with_reducible rfl))
    (try simp only [Act.put, List.setIfInBounds_toArray, List.set_cons_zero, List.set_cons_succ])
    refine rp_take (i := 1) (v := ?_) rfl (by kernel_rfl) (by kernel_rfl) (by kernel_rfl) (by rfl) (by assumption) ?_ (by exact fun _ _ _ h => h) ?_
    rotate_left
    · (intro w hSw; (try dsimp only at hSw); go_simp; try (with_reducible rfl))
    (try simp only [Act.put, List.setIfInBounds_toArray, List.set_cons_zero, List.set_cons_succ])
    refine rp_take (i := 2) (v := ?_) rfl (by kernel_rfl) (by kernel_rfl) (by kernel_rfl) (by rfl) (by assumption) ?_ (by exact fun _ _ _ h => h) ?_
    rotate_left
    · (intro w hSw; (try dsimp only at hSw); go_simp; try (with_reducible rfl))
    (try simp only [Act.put, List.setIfInBounds_toArray, List.set_cons_zero, List.set_cons_succ])
    refine rp_take (i := 3) (v := ?_) rfl (by kernel_rfl) (by kernel_rfl) (by kernel_rfl) (by rfl) (by assumption) ?_ (by exact fun _ _ _ h => h) ?_
    rotate_left
    · (intro w hSw; (try dsimp only at hSw); go_simp; try (with_reducible rfl))
    (try simp only [Act.put, List.setIfInBounds_toArray, List.set_cons_zero, List.set_cons_succ])
    refine rp_take (i := 5) (v := ?_) rfl (by kernel_rfl) (by kernel_rfl) (by kernel_rfl) (by rfl) (by assumption) ?_ (by exact fun _ _ _ h => h) ?_
    rotate_left
    · (intro w hSw; (try dsimp only at hSw); go_simp; try (with_reducible rfl))
    (try simp only [Act.put, List.setIfInBounds_toArray, List.set_cons_zero, List.set_cons_succ])
    refine rp_take (i := 6) (v := ?_) rfl (by kernel_rfl) (by kernel_rfl) (by kernel_rfl) (by rfl) (by assumption) ?_ (by exact fun _ _ _ h => h) ?_
    rotate_left
    · (intro w hSw; (try dsimp only at hSw); go_simp; try (with_reducible rfl))
    (try simp only [Act.put, List.setIfInBounds_toArray, List.set_cons_zero, List.set_cons_succ])
    refine rp_take (i := 7) (v := ?_) rfl (by kernel_rfl) (by kernel_rfl) (by kernel_rfl) (by rfl) (by assumption) ?_ (by exact fun _ _ _ h => h) ?_
    rotate_left
    · (intro w hSw; (try dsimp only at hSw); go_simp; try (with_reducible rfl))
    (try simp only [Act.put, List.setIfInBounds_toArray, List.set_cons_zero, List.set_cons_succ])
    refine rp_take (i := 8) (v := ?_) rfl (by kernel_rfl) (by kernel_rfl) (by kernel_rfl) (by rfl) (by assumption) ?_ (by exact fun _ _ _ h => h) ?_
    rotate_left
    · (intro w hSw; (try dsimp only at hSw); go_simp; try (with_reducible rfl))
    (try simp only [Act.put, List.setIfInBounds_toArray, List.set_cons_zero, List.set_cons_succ])
    refine rp_take (i := 9) (v := ?_) rfl (by kernel_rfl) (by kernel_rfl) (by kernel_rfl) (by rfl) (by assumption) ?_ (by exact fun _ _ _ h => h) ?_
    rotate_left
    · (intro w hSw; (try dsimp only at hSw); go_simp; try (with_reducible rfl))
    (try simp only [Act.put, List.setIfInBounds_toArray, List.set_cons_zero, List.set_cons_succ])
    refine rp_take (i := 10) (v := ?_) rfl (by kernel_rfl) (by kernel_rfl) (by kernel_rfl) (by rfl) (by assumption) ?_ (by exact fun _ _ _ h => h) ?_
    rotate_left
    · (intro w hSw; (try dsimp only at hSw); go_simp; try (with_reducible rfl))
    (try simp only [Act.put, List.setIfInBounds_toArray, List.set_cons_zero, List.set_cons_succ])
    refine rp_take (i := 11) (v := ?_) rfl (by kernel_rfl) (by kernel_rfl) (by kernel_rfl) (by rfl) (by assumption) ?_ (by exact fun _ _ _ h => h) ?_
    rotate_left
    · (intro w hSw; (try dsimp only at hSw); go_simp; try (with_reducible rfl))
    (try simp only [Act.put, List.setIfInBounds_toArray, List.set_cons_zero, List.set_cons_succ])
    refine rp_take (i := 12) (v := ?_) rfl (by kernel_rfl) (by kernel_rfl) (by kernel_rfl) (by rfl) (by assumption) ?_ (by exact fun _ _ _ h => h) ?_
    rotate_left
    · (intro w hSw; (try dsimp only at hSw); go_simp; try (with_reducible rfl))
    (try simp only [Act.put, List.setIfInBounds_toArray, List.set_cons_zero, List.set_cons_succ])
    refine rp_take (i := 17) (v := ?_) rfl (by kernel_rfl) (by kernel_rfl) (by kernel_rfl) (by rfl) (by assumption) ?_ (by exact fun _ _ _ h => h) ?_
    rotate_left
    · (intro w hSw; (try dsimp only at hSw); go_simp; try (with_reducible rfl))
    (try simp only [Act.put, List.setIfInBounds_toArray, List.set_cons_zero, List.set_cons_succ])
    refine rp_take (i := 18) (v := ?_) rfl (by kernel_rfl) (by kernel_rfl) (by kernel_rfl) (by rfl) (by assumption) ?_ (by exact fun _ _ _ h => h) ?_
    rotate_left
    · (intro w hSw; (try dsimp only at hSw); go_simp; try (with_reducible rfl))
    (try simp only [Act.put, List.setIfInBounds_toArray, List.set_cons_zero, List.set_cons_succ])
    refine rp_take (i := 19) (v := ?_) rfl (by kernel_rfl) (by kernel_rfl) (by kernel_rfl) (by rfl) (by assumption) ?_ (by exact fun _ _ _ h => h) ?_
    rotate_left
    · (intro w hSw; (try dsimp only at hSw); go_simp; try (with_reducible rfl))
    (try simp only [Act.put, List.setIfInBounds_toArray, List.set_cons_zero, List.set_cons_succ])
    refine wpAnyH_ready (rs := [4, 13]) (by kernel_rfl) (by simp) ?_
    refine rh_cons (i := 4) rfl (fun K hK => ?_) ?_
    · go_simp
      have S1 := hHeld
      refine hK.out _ _ ?_ (fun hHeld => ?_)
      · (try dsimp only)
        exact S1
      clear hK K
      (try simp only [Act.put, List.setIfInBounds_toArray, List.set_cons_zero, List.set_cons_succ])
      refine wpAnyH_ready (rs := [13]) (by kernel_rfl) (by simp) ?_
      refine rh_cons (i := 13) rfl (fun K hK => ?_) ?_
      · go_simp
        refine (HD.out _ HT0.out).mono ?_
        rintro e w1 ⟨rfl, hb1⟩
        have HB0 := Lib.hid (below_next HB0.out (Nat.le_refl _) hb1)
        have S1 := UseS.next hHeld hb1
        obtain ⟨q11, f11⟩ := (HK0.out.below HB0.out HK0.out.lt).at 11 _ rfl
        clear hb1
        go_wp2_with fail
        refine hK.out _ _ ?_ (fun hHeld => ?_)
        · (try dsimp only)
          exact S1
        clear hK K
        (try simp only [Act.put, List.setIfInBounds_toArray, List.set_cons_zero, List.set_cons_succ])
        refine rp_take (i := 14) (v := ?_) rfl (by kernel_rfl) (by kernel_rfl) (by kernel_rfl) (by rfl) (by assumption) ?_ (by exact fun _ _ _ h => h) ?_
        rotate_left
        · (intro w hSw; (try dsimp only at hSw); go_simp; try (with_reducible rfl))
        (try simp only [Act.put, List.setIfInBounds_toArray, List.set_cons_zero, List.set_cons_succ])
        refine rp_take (i := 15) (v := ?_) rfl (by kernel_rfl) (by kernel_rfl) (by kernel_rfl) (by rfl) (by assumption) ?_ (by exact fun _ _ _ h => h) ?_
        rotate_left
        · (intro w hSw; (try dsimp only at hSw); go_simp; try (with_reducible rfl))
        (try simp only [Act.put, List.setIfInBounds_toArray, List.set_cons_zero, List.set_cons_succ])
        refine wpAnyH_ready (rs := [16]) (by kernel_rfl) (by simp) ?_
        refine rh_cons (i := 16) rfl (fun K hK => ?_) ?_
        · go_simp
          refine (mustR_no _ _ _ 2 (by omega) _).mono ?_
          rintro e w2 ⟨rfl, hb2⟩
          have HB0 := Lib.hid (below_next HB0.out (Nat.le_refl _) hb2)
          exact ⟨rfl, rfl, HK0.out.below HB0.out HK0.out.lt, Grown2.of (HG0.out.trans (gr_below HB0.out _)) _⟩
        exact AllReadyH.nil
      exact AllReadyH.nil
    refine rh_cons (i := 13) rfl (fun K hK => ?_) ?_
    · go_simp
      refine (HD.out _ HT0.out).mono ?_
      rintro e w1 ⟨rfl, hb1⟩
      have HB0 := Lib.hid (below_next HB0.out (Nat.le_refl _) hb1)
      have S1 := UseS.next hHeld hb1
      obtain ⟨q11, f11⟩ := (HK0.out.below HB0.out HK0.out.lt).at 11 _ rfl
      clear hb1
      go_wp2_with fail
      refine hK.out _ _ ?_ (fun hHeld => ?_)
      · (try dsimp only)
        exact S1
      clear hK K
      (try simp only [Act.put, List.setIfInBounds_toArray, List.set_cons_zero, List.set_cons_succ])
      refine rp_take (i := 14) (v := ?_) rfl (by kernel_rfl) (by kernel_rfl) (by kernel_rfl) (by rfl) (by assumption) ?_ (by exact fun _ _ _ h => h) ?_
      rotate_left
      · (intro w hSw; (try dsimp only at hSw); go_simp; try (with_reducible rfl))
      (try simp only [Act.put, List.setIfInBounds_toArray, List.set_cons_zero, List.set_cons_succ])
      refine rp_take (i := 15) (v := ?_) rfl (by kernel_rfl) (by kernel_rfl) (by kernel_rfl) (by rfl) (by assumption) ?_ (by exact fun _ _ _ h => h) ?_
      rotate_left
      · (intro w hSw; (try dsimp only at hSw); go_simp; try (with_reducible rfl))
      (try simp only [Act.put, List.setIfInBounds_toArray, List.set_cons_zero, List.set_cons_succ])
      refine wpAnyH_ready (rs := [4, 16]) (by kernel_rfl) (by simp) ?_
      refine rh_cons (i := 4) rfl (fun K hK => ?_) ?_
      · go_simp
        have S1 := hHeld
        refine hK.out _ _ ?_ (fun hHeld => ?_)
        · (try dsimp only)
          exact S1
        clear hK K
        (try simp only [Act.put, List.setIfInBounds_toArray, List.set_cons_zero, List.set_cons_succ])
        refine wpAnyH_ready (rs := [16]) (by kernel_rfl) (by simp) ?_
        refine rh_cons (i := 16) rfl (fun K hK => ?_) ?_
        · go_simp
          refine (mustR_no _ _ _ 2 (by omega) _).mono ?_
          rintro e w2 ⟨rfl, hb2⟩
          have HB0 := Lib.hid (below_next HB0.out (Nat.le_refl _) hb2)
          exact ⟨rfl, rfl, HK0.out.below HB0.out HK0.out.lt, Grown2.of (HG0.out.trans (gr_below HB0.out _)) _⟩
        exact AllReadyH.nil
      refine rh_cons (i := 16) rfl (fun K hK => ?_) ?_
      · go_simp
        refine (mustR_no _ _ _ 2 (by omega) _).mono ?_
        rintro e w2 ⟨rfl, hb2⟩
        have HB0 := Lib.hid (below_next HB0.out (Nat.le_refl _) hb2)
        exact ⟨rfl, rfl, HK0.out.below HB0.out HK0.out.lt, Grown2.of (HG0.out.trans (gr_below HB0.out _)) _⟩
      exact AllReadyH.nil
    exact AllReadyH.nil
    -- </useno>
  case some q =>
    have HF := Lib.hid (useC_snoc us ⟨A, q, false, (B == 1)⟩)
    simp only [useV] at HF
    obtain ⟨bk, hbk⟩ : ∃ bk, (B == 1) = bk := ⟨_, rfl⟩
    have HBK := Lib.hid hbk
    rw [hbk] at HF ⊢
    go_enter Tryz.func40, Tryz.ntmps40
    go_wp2
    obtain ⟨W0, hW0⟩ : ∃ W0, w.alloc (.cells #[.int .i64 4, .int .i64 A, .int .i64 B, .bool r.neg, .string (bs r.n), .string (bs r.d)] 40) = W0 := ⟨_, rfl⟩
    have K0 : Blk W0.drew sb (stC cv day amt bat next fuel lead uv wv) 66 := by rw [← hW0]; exact (HS.out.alloc _).drew
    have L0 : Blk W0.drew w.heap.size [.int .i64 4, .int .i64 A, .int .i64 B, .bool r.neg, .string (bs r.n), .string (bs r.d)] 40 := by rw [← hW0]; exact (Blk.new w _ _).drew
    have T0 : Tab W0.drew := by rw [← hW0]; exact (HT.out.below ((Below.refl w.heap.size w).alloc (Nat.le_refl _) _)).drew
    have G0 : w.grownBy W0.drew (some sb) := by rw [← hW0]; exact (gr_alloc _ _ _).trans (gr_drew _ _)
    have Z0 : W0.drew.heap.size = w.heap.size + 1 := by rw [← hW0]; show (w.alloc _).heap.size = _; simp
    have S0 : UseS sb w.heap.size bat A B r.neg (bs r.n) (bs r.d) W0.drew := ⟨(L0.at 1 _ rfl).1, (L0.at 2 _ rfl).1, (L0.at 3 _ rfl).1, (L0.at 4 _ rfl).1, (L0.at 5 _ rfl).1, (K0.at 5 _ rfl).1, (K0.at 6 _ rfl).1, (K0.at 7 _ rfl).1⟩
    have U0 : W0.drew.ownsRow B0 58 6 uv us.length (useC us) := owns_of HU.out (fun g hg => by rw [← hW0]; exact Below.heap_alloc _ _ _ (owns_lt HU.out hg))
    obtain ⟨q11, f11⟩ := K0.at 11 _ rfl
    rw [hW0]
    have HG0 := Lib.hid G0
    have HK0 := Lib.hid K0
    have HT0 := Lib.hid T0
    have HU0 := Lib.hid U0
    have HZ0 := Lib.hid Z0
    have HB0 := Lib.hid (Below.refl W0.drew.heap.size W0.drew)
    clear hW0 G0 K0 L0 T0 U0 Z0
    -- <useok>
    refine wp_region_held_drew (S := (fun w' => w'.cell? ⟨w.heap.size, 1, none⟩ = some (.int .i64 A) ∧ w'.cell? ⟨w.heap.size, 2, none⟩ = some (.int .i64 B) ∧ w'.cell? ⟨w.heap.size, 3, none⟩ = some (.bool r.neg) ∧ w'.cell? ⟨w.heap.size, 4, none⟩ = some (.string (bs r.n)) ∧ w'.cell? ⟨w.heap.size, 5, none⟩ = some (.string (bs r.d)) ∧ w'.cell? ⟨sb, 5, none⟩ = some (.bool bat.neg) ∧ w'.cell? ⟨sb, 6, none⟩ = some (.string (bs bat.n)) ∧ w'.cell? ⟨sb, 7, none⟩ = some (.string (bs bat.d)))) (by kernel_rfl) ?_ (fun hHeld => ?_)
    · exact S0
    refine rp_take (i := 0) (v := ?_) rfl (by kernel_rfl) (by kernel_rfl) (by kernel_rfl) (by rfl) (by assumption) ?_ (by exact fun _ _ _ h => h) ?_
    rotate_left
    · (intro w hSw; (try dsimp only at hSw); go_simp; try (with_reducible rfl))
    (try simp only [Act.put, List.setIfInBounds_toArray, List.set_cons_zero, List.set_cons_succ])
    refine rp_take (i := 1) (v := ?_) rfl (by kernel_rfl) (by kernel_rfl) (by kernel_rfl) (by rfl) (by assumption) ?_ (by exact fun _ _ _ h => h) ?_
    rotate_left
    · (intro w hSw; (try dsimp only at hSw); go_simp; try (with_reducible rfl))
    (try simp only [Act.put, List.setIfInBounds_toArray, List.set_cons_zero, List.set_cons_succ])
    refine rp_take (i := 2) (v := ?_) rfl (by kernel_rfl) (by kernel_rfl) (by kernel_rfl) (by rfl) (by assumption) ?_ (by exact fun _ _ _ h => h) ?_
    rotate_left
    · (intro w hSw; (try dsimp only at hSw); go_simp; try (with_reducible rfl))
    (try simp only [Act.put, List.setIfInBounds_toArray, List.set_cons_zero, List.set_cons_succ])
    refine rp_take (i := 3) (v := ?_) rfl (by kernel_rfl) (by kernel_rfl) (by kernel_rfl) (by rfl) (by assumption) ?_ (by exact fun _ _ _ h => h) ?_
    rotate_left
    · (intro w hSw; (try dsimp only at hSw); go_simp; try (with_reducible rfl))
    (try simp only [Act.put, List.setIfInBounds_toArray, List.set_cons_zero, List.set_cons_succ])
    refine rp_take (i := 5) (v := ?_) rfl (by kernel_rfl) (by kernel_rfl) (by kernel_rfl) (by rfl) (by assumption) ?_ (by exact fun _ _ _ h => h) ?_
    rotate_left
    · (intro w hSw; (try dsimp only at hSw); go_simp; try (with_reducible rfl))
    (try simp only [Act.put, List.setIfInBounds_toArray, List.set_cons_zero, List.set_cons_succ])
    refine rp_take (i := 6) (v := ?_) rfl (by kernel_rfl) (by kernel_rfl) (by kernel_rfl) (by rfl) (by assumption) ?_ (by exact fun _ _ _ h => h) ?_
    rotate_left
    · (intro w hSw; (try dsimp only at hSw); go_simp; try (with_reducible rfl))
    (try simp only [Act.put, List.setIfInBounds_toArray, List.set_cons_zero, List.set_cons_succ])
    refine rp_take (i := 7) (v := ?_) rfl (by kernel_rfl) (by kernel_rfl) (by kernel_rfl) (by rfl) (by assumption) ?_ (by exact fun _ _ _ h => h) ?_
    rotate_left
    · (intro w hSw; (try dsimp only at hSw); go_simp; try (with_reducible rfl))
    (try simp only [Act.put, List.setIfInBounds_toArray, List.set_cons_zero, List.set_cons_succ])
    refine rp_take (i := 8) (v := ?_) rfl (by kernel_rfl) (by kernel_rfl) (by kernel_rfl) (by rfl) (by assumption) ?_ (by exact fun _ _ _ h => h) ?_
    rotate_left
    · (intro w hSw; (try dsimp only at hSw); go_simp; try (with_reducible rfl))
    (try simp only [Act.put, List.setIfInBounds_toArray, List.set_cons_zero, List.set_cons_succ])
    refine rp_take (i := 9) (v := ?_) rfl (by kernel_rfl) (by kernel_rfl) (by kernel_rfl) (by rfl) (by assumption) ?_ (by exact fun _ _ _ h => h) ?_
    rotate_left
    · (intro w hSw; (try dsimp only at hSw); go_simp; try (with_reducible rfl))
    (try simp only [Act.put, List.setIfInBounds_toArray, List.set_cons_zero, List.set_cons_succ])
    refine rp_take (i := 10) (v := ?_) rfl (by kernel_rfl) (by kernel_rfl) (by kernel_rfl) (by rfl) (by assumption) ?_ (by exact fun _ _ _ h => h) ?_
    rotate_left
    · (intro w hSw; (try dsimp only at hSw); go_simp; try (with_reducible rfl))
    (try simp only [Act.put, List.setIfInBounds_toArray, List.set_cons_zero, List.set_cons_succ])
    refine rp_take (i := 11) (v := ?_) rfl (by kernel_rfl) (by kernel_rfl) (by kernel_rfl) (by rfl) (by assumption) ?_ (by exact fun _ _ _ h => h) ?_
    rotate_left
    · (intro w hSw; (try dsimp only at hSw); go_simp; try (with_reducible rfl))
    (try simp only [Act.put, List.setIfInBounds_toArray, List.set_cons_zero, List.set_cons_succ])
    refine rp_take (i := 12) (v := ?_) rfl (by kernel_rfl) (by kernel_rfl) (by kernel_rfl) (by rfl) (by assumption) ?_ (by exact fun _ _ _ h => h) ?_
    rotate_left
    · (intro w hSw; (try dsimp only at hSw); go_simp; try (with_reducible rfl))
    (try simp only [Act.put, List.setIfInBounds_toArray, List.set_cons_zero, List.set_cons_succ])
    refine rp_take (i := 17) (v := ?_) rfl (by kernel_rfl) (by kernel_rfl) (by kernel_rfl) (by rfl) (by assumption) ?_ (by exact fun _ _ _ h => h) ?_
    rotate_left
    · (intro w hSw; (try dsimp only at hSw); go_simp; try (with_reducible rfl))
    (try simp only [Act.put, List.setIfInBounds_toArray, List.set_cons_zero, List.set_cons_succ])
    refine rp_take (i := 18) (v := ?_) rfl (by kernel_rfl) (by kernel_rfl) (by kernel_rfl) (by rfl) (by assumption) ?_ (by exact fun _ _ _ h => h) ?_
    rotate_left
    · (intro w hSw; (try dsimp only at hSw); go_simp; try (with_reducible rfl))
    (try simp only [Act.put, List.setIfInBounds_toArray, List.set_cons_zero, List.set_cons_succ])
    refine rp_take (i := 19) (v := ?_) rfl (by kernel_rfl) (by kernel_rfl) (by kernel_rfl) (by rfl) (by assumption) ?_ (by exact fun _ _ _ h => h) ?_
    rotate_left
    · (intro w hSw; (try dsimp only at hSw); go_simp; try (with_reducible rfl))
    (try simp only [Act.put, List.setIfInBounds_toArray, List.set_cons_zero, List.set_cons_succ])
    refine wpAnyH_ready (rs := [4, 13]) (by kernel_rfl) (by simp) ?_
    refine rh_cons (i := 4) rfl (fun K hK => ?_) ?_
    · go_simp
      have S1 := hHeld
      refine hK.out _ _ ?_ (fun hHeld => ?_)
      · (try dsimp only)
        exact S1
      clear hK K
      (try simp only [Act.put, List.setIfInBounds_toArray, List.set_cons_zero, List.set_cons_succ])
      refine wpAnyH_ready (rs := [13]) (by kernel_rfl) (by simp) ?_
      refine rh_cons (i := 13) rfl (fun K hK => ?_) ?_
      · go_simp
        refine (HD.out _ HT0.out).mono ?_
        rintro e w1 ⟨rfl, hb1⟩
        have HB0 := Lib.hid (below_next HB0.out (Nat.le_refl _) hb1)
        have S1 := UseS.next hHeld hb1
        obtain ⟨q11, f11⟩ := (HK0.out.below HB0.out HK0.out.lt).at 11 _ rfl
        clear hb1
        go_wp2_with fail
        refine hK.out _ _ ?_ (fun hHeld => ?_)
        · (try dsimp only)
          exact S1
        clear hK K
        (try simp only [Act.put, List.setIfInBounds_toArray, List.set_cons_zero, List.set_cons_succ])
        refine rp_take (i := 14) (v := ?_) rfl (by kernel_rfl) (by kernel_rfl) (by kernel_rfl) (by rfl) (by assumption) ?_ (by exact fun _ _ _ h => h) ?_
        rotate_left
        · (intro w hSw; (try dsimp only at hSw); go_simp; try (with_reducible rfl))
        (try simp only [Act.put, List.setIfInBounds_toArray, List.set_cons_zero, List.set_cons_succ])
        refine rp_take (i := 15) (v := ?_) rfl (by kernel_rfl) (by kernel_rfl) (by kernel_rfl) (by rfl) (by assumption) ?_ (by exact fun _ _ _ h => h) ?_
        rotate_left
        · (intro w hSw; (try dsimp only at hSw); go_simp; try (with_reducible rfl))
        (try simp only [Act.put, List.setIfInBounds_toArray, List.set_cons_zero, List.set_cons_succ])
        refine wpAnyH_ready (rs := [16]) (by kernel_rfl) (by simp) ?_
        refine rh_cons (i := 16) rfl (fun K hK => ?_) ?_
        · go_simp
          refine (mustR_ok _ _ _ _).mono ?_
          rintro e w2 ⟨rfl, hb2⟩
          have HB0 := Lib.hid (below_next HB0.out (Nat.le_refl _) hb2)
          have S1 := UseS.next hHeld hb2
          obtain ⟨q11, f11⟩ := (HK0.out.below HB0.out HK0.out.lt).at 11 _ rfl
          clear hb2
          go_wp2_with fail
          refine hK.out _ _ ?_ (fun hHeld => ?_)
          · (try dsimp only)
            exact S1
          clear hK K
          (try simp only [Act.put, List.setIfInBounds_toArray, List.set_cons_zero, List.set_cons_succ])
          refine rp_take (i := 20) (v := ?_) rfl (by kernel_rfl) (by kernel_rfl) (by kernel_rfl) (by rfl) (by assumption) ?_ (by exact fun _ _ _ h => h) ?_
          rotate_left
          · (intro w hSw; (try dsimp only at hSw); go_simp; try (with_reducible rfl))
          (try simp only [Act.put, List.setIfInBounds_toArray, List.set_cons_zero, List.set_cons_succ])
          refine wpAnyH_ready (rs := [21]) (by kernel_rfl) (by simp) ?_
          refine rh_cons (i := 21) rfl (fun K hK => ?_) ?_
          · go_simp
            have hb3 := (Below.refl w2.heap.size w2).alloc (Nat.le_refl _) (.cells ([.int .i64 A, .bool q.neg, .string (bs q.n), .string (bs q.d), .bool false, .bool bk] : List Value).toArray 58)
            have HB0 := Lib.hid (below_next HB0.out (Nat.le_refl _) hb3)
            have S1 := UseS.next hHeld hb3
            obtain ⟨q11, f11⟩ := (HK0.out.below HB0.out HK0.out.lt).at 11 _ rfl
            have HN3 := Lib.hid (Blk.new w2 [.int .i64 A, .bool q.neg, .string (bs q.n), .string (bs q.d), .bool false, .bool bk] 58)
            clear hb3
            refine hK.out _ _ ?_ (fun hHeld => ?_)
            · (try dsimp only)
              exact S1
            clear hK K
            (try simp only [Act.put, List.setIfInBounds_toArray, List.set_cons_zero, List.set_cons_succ])
            refine wpAnyH_ready (rs := [22]) (by kernel_rfl) (by simp) ?_
            refine rh_cons (i := 22) rfl (fun K hK => ?_) ?_
            · skip
              refine step_append_any _ rfl (.tmp 8) (.tmp 25) 29 rfl B0 58 i0 _ 6 56 Tryz.underlying29 hi0 hz0 hz1 hz2 rfl (by omega) uv us.length (useC us) rfl (owns_of HU0.out (fun g hg => HB0.out.block g (owns_lt HU0.out hg))) (w2.heap.size + 1) (some ⟨w2.heap.size, 0, none⟩) 1 1 [.int .i64 A, .bool q.neg, .string (bs q.n), .string (bs q.d), .bool false, .bool bk] rfl ?_ ?_ ?_ ?_ ?_ ?_
              · exact reads_new HN3.out
              · intro u hu; simp at hu; rcases hu with rfl | rfl | rfl | rfl | rfl | rfl <;> rfl
              · simp only [maxLen]; omega
              · omega
              · have := HB0.out.size; have := HZ0.out; omega
              intro v5 w5 hown5 hg5 hbk5
              obtain ⟨A5, c5, rfl⟩ := owns_slice hown5
              have HO5 := Lib.hid hown5
              have HG5 := Lib.hid hg5
              have HK5 := Lib.hid ((HK0.out.below HB0.out HK0.out.lt).grown hg5 hu1.out)
              have S1 := UseS.grown hHeld hg5 hu1.out hu2.out
              have HV5 := Lib.hid hbk5
              have HB5 := Lib.hid HB0.out
              obtain ⟨q11, f11⟩ := HK5.out.at 11 _ rfl
              clear hown5 hg5 hbk5
              refine hK.out _ _ ?_ (fun hHeld => ?_)
              · (try dsimp only)
                exact S1
              clear hK K
              (try simp only [Act.put, List.setIfInBounds_toArray, List.set_cons_zero, List.set_cons_succ])
              refine rp_take (i := 23) (v := ?_) rfl (by kernel_rfl) (by kernel_rfl) (by kernel_rfl) (by rfl) (by assumption) ?_ (by exact fun _ _ _ h => h) ?_
              rotate_left
              · (intro w hSw; (try dsimp only at hSw); go_simp; try (with_reducible rfl))
              (try simp only [Act.put, List.setIfInBounds_toArray, List.set_cons_zero, List.set_cons_succ])
              refine rp_take (i := 24) (v := ?_) rfl (by kernel_rfl) (by kernel_rfl) (by kernel_rfl) (by rfl) (by assumption) ?_ (by exact fun _ _ _ h => h) ?_
              rotate_left
              · (intro w hSw; (try dsimp only at hSw); go_simp; try (with_reducible rfl))
              (try simp only [Act.put, List.setIfInBounds_toArray, List.set_cons_zero, List.set_cons_succ])
              refine wpAnyH_ready (rs := [25]) (by kernel_rfl) (by simp) ?_
              refine rh_cons (i := 25) rfl (fun K hK => ?_) ?_
              · go_simp
                have S1 := UseS.set hHeld ne1 11 (by omega) (.slice A5 (us.length + 1) c5)
                refine hK.out _ _ ?_ (fun hHeld => ?_)
                · (try dsimp only)
                  exact S1
                clear hK K
                (try simp only [Act.put, List.setIfInBounds_toArray, List.set_cons_zero, List.set_cons_succ])
                refine wpAnyH_done (by kernel_rfl) ?_ _
                go_wp2
                go_end0
                have hsz5 := HB5.out.size
                have hz5 := HZ0.out
                have hne5 : ∀ g, (Value.slice A5 (us.length + 1) c5).ownBlock = some g → g ≠ sb := fun g hg => by
                  rcases HV5.out with h | h
                  · rw [hg] at h; intro e; subst e; exact hu1.out h
                  · rw [hg] at h; have := Option.some.inj h; omega
                refine ⟨rfl, _, HK5.out.set 11 _, ?_, ?_, ?_⟩
                · rw [HF.out]; exact owns_of HO5.out (fun g hg => Below.heap_setCell _ _ _ _ (hne5 g hg))
                · rcases HV5.out with h | h
                  · exact .inl h
                  · exact .inr ⟨_, h, by omega⟩
                · exact (((Grown2.of HG0.out _).trans (Grown2.of (gr_below HB5.out _) _)).trans (Grown2.of' HG5.out _)).trans (Grown2.of (gr_set _ _ _ _) _)
              exact AllReadyH.nil
            exact AllReadyH.nil
          exact AllReadyH.nil
        exact AllReadyH.nil
      exact AllReadyH.nil
    refine rh_cons (i := 13) rfl (fun K hK => ?_) ?_
    · go_simp
      refine (HD.out _ HT0.out).mono ?_
      rintro e w1 ⟨rfl, hb1⟩
      have HB0 := Lib.hid (below_next HB0.out (Nat.le_refl _) hb1)
      have S1 := UseS.next hHeld hb1
      obtain ⟨q11, f11⟩ := (HK0.out.below HB0.out HK0.out.lt).at 11 _ rfl
      clear hb1
      go_wp2_with fail
      refine hK.out _ _ ?_ (fun hHeld => ?_)
      · (try dsimp only)
        exact S1
      clear hK K
      (try simp only [Act.put, List.setIfInBounds_toArray, List.set_cons_zero, List.set_cons_succ])
      refine rp_take (i := 14) (v := ?_) rfl (by kernel_rfl) (by kernel_rfl) (by kernel_rfl) (by rfl) (by assumption) ?_ (by exact fun _ _ _ h => h) ?_
      rotate_left
      · (intro w hSw; (try dsimp only at hSw); go_simp; try (with_reducible rfl))
      (try simp only [Act.put, List.setIfInBounds_toArray, List.set_cons_zero, List.set_cons_succ])
      refine rp_take (i := 15) (v := ?_) rfl (by kernel_rfl) (by kernel_rfl) (by kernel_rfl) (by rfl) (by assumption) ?_ (by exact fun _ _ _ h => h) ?_
      rotate_left
      · (intro w hSw; (try dsimp only at hSw); go_simp; try (with_reducible rfl))
      (try simp only [Act.put, List.setIfInBounds_toArray, List.set_cons_zero, List.set_cons_succ])
      refine wpAnyH_ready (rs := [4, 16]) (by kernel_rfl) (by simp) ?_
      refine rh_cons (i := 4) rfl (fun K hK => ?_) ?_
      · go_simp
        have S1 := hHeld
        refine hK.out _ _ ?_ (fun hHeld => ?_)
        · (try dsimp only)
          exact S1
        clear hK K
        (try simp only [Act.put, List.setIfInBounds_toArray, List.set_cons_zero, List.set_cons_succ])
        refine wpAnyH_ready (rs := [16]) (by kernel_rfl) (by simp) ?_
        refine rh_cons (i := 16) rfl (fun K hK => ?_) ?_
        · go_simp
          refine (mustR_ok _ _ _ _).mono ?_
          rintro e w2 ⟨rfl, hb2⟩
          have HB0 := Lib.hid (below_next HB0.out (Nat.le_refl _) hb2)
          have S1 := UseS.next hHeld hb2
          obtain ⟨q11, f11⟩ := (HK0.out.below HB0.out HK0.out.lt).at 11 _ rfl
          clear hb2
          go_wp2_with fail
          refine hK.out _ _ ?_ (fun hHeld => ?_)
          · (try dsimp only)
            exact S1
          clear hK K
          (try simp only [Act.put, List.setIfInBounds_toArray, List.set_cons_zero, List.set_cons_succ])
          refine rp_take (i := 20) (v := ?_) rfl (by kernel_rfl) (by kernel_rfl) (by kernel_rfl) (by rfl) (by assumption) ?_ (by exact fun _ _ _ h => h) ?_
          rotate_left
          · (intro w hSw; (try dsimp only at hSw); go_simp; try (with_reducible rfl))
          (try simp only [Act.put, List.setIfInBounds_toArray, List.set_cons_zero, List.set_cons_succ])
          refine wpAnyH_ready (rs := [21]) (by kernel_rfl) (by simp) ?_
          refine rh_cons (i := 21) rfl (fun K hK => ?_) ?_
          · go_simp
            have hb3 := (Below.refl w2.heap.size w2).alloc (Nat.le_refl _) (.cells ([.int .i64 A, .bool q.neg, .string (bs q.n), .string (bs q.d), .bool false, .bool bk] : List Value).toArray 58)
            have HB0 := Lib.hid (below_next HB0.out (Nat.le_refl _) hb3)
            have S1 := UseS.next hHeld hb3
            obtain ⟨q11, f11⟩ := (HK0.out.below HB0.out HK0.out.lt).at 11 _ rfl
            have HN3 := Lib.hid (Blk.new w2 [.int .i64 A, .bool q.neg, .string (bs q.n), .string (bs q.d), .bool false, .bool bk] 58)
            clear hb3
            refine hK.out _ _ ?_ (fun hHeld => ?_)
            · (try dsimp only)
              exact S1
            clear hK K
            (try simp only [Act.put, List.setIfInBounds_toArray, List.set_cons_zero, List.set_cons_succ])
            refine wpAnyH_ready (rs := [22]) (by kernel_rfl) (by simp) ?_
            refine rh_cons (i := 22) rfl (fun K hK => ?_) ?_
            · skip
              refine step_append_any _ rfl (.tmp 8) (.tmp 25) 29 rfl B0 58 i0 _ 6 56 Tryz.underlying29 hi0 hz0 hz1 hz2 rfl (by omega) uv us.length (useC us) rfl (owns_of HU0.out (fun g hg => HB0.out.block g (owns_lt HU0.out hg))) (w2.heap.size + 1) (some ⟨w2.heap.size, 0, none⟩) 1 1 [.int .i64 A, .bool q.neg, .string (bs q.n), .string (bs q.d), .bool false, .bool bk] rfl ?_ ?_ ?_ ?_ ?_ ?_
              · exact reads_new HN3.out
              · intro u hu; simp at hu; rcases hu with rfl | rfl | rfl | rfl | rfl | rfl <;> rfl
              · simp only [maxLen]; omega
              · omega
              · have := HB0.out.size; have := HZ0.out; omega
              intro v5 w5 hown5 hg5 hbk5
              obtain ⟨A5, c5, rfl⟩ := owns_slice hown5
              have HO5 := Lib.hid hown5
              have HG5 := Lib.hid hg5
              have HK5 := Lib.hid ((HK0.out.below HB0.out HK0.out.lt).grown hg5 hu1.out)
              have S1 := UseS.grown hHeld hg5 hu1.out hu2.out
              have HV5 := Lib.hid hbk5
              have HB5 := Lib.hid HB0.out
              obtain ⟨q11, f11⟩ := HK5.out.at 11 _ rfl
              clear hown5 hg5 hbk5
              refine hK.out _ _ ?_ (fun hHeld => ?_)
              · (try dsimp only)
                exact S1
              clear hK K
              (try simp only [Act.put, List.setIfInBounds_toArray, List.set_cons_zero, List.set_cons_succ])
              refine rp_take (i := 23) (v := ?_) rfl (by kernel_rfl) (by kernel_rfl) (by kernel_rfl) (by rfl) (by assumption) ?_ (by exact fun _ _ _ h => h) ?_
              rotate_left
              · (intro w hSw; (try dsimp only at hSw); go_simp; try (with_reducible rfl))
              (try simp only [Act.put, List.setIfInBounds_toArray, List.set_cons_zero, List.set_cons_succ])
              refine rp_take (i := 24) (v := ?_) rfl (by kernel_rfl) (by kernel_rfl) (by kernel_rfl) (by rfl) (by assumption) ?_ (by exact fun _ _ _ h => h) ?_
              rotate_left
              · (intro w hSw; (try dsimp only at hSw); go_simp; try (with_reducible rfl))
              (try simp only [Act.put, List.setIfInBounds_toArray, List.set_cons_zero, List.set_cons_succ])
              refine wpAnyH_ready (rs := [25]) (by kernel_rfl) (by simp) ?_
              refine rh_cons (i := 25) rfl (fun K hK => ?_) ?_
              · go_simp
                have S1 := UseS.set hHeld ne1 11 (by omega) (.slice A5 (us.length + 1) c5)
                refine hK.out _ _ ?_ (fun hHeld => ?_)
                · (try dsimp only)
                  exact S1
                clear hK K
                (try simp only [Act.put, List.setIfInBounds_toArray, List.set_cons_zero, List.set_cons_succ])
                refine wpAnyH_done (by kernel_rfl) ?_ _
                go_wp2
                go_end0
                have hsz5 := HB5.out.size
                have hz5 := HZ0.out
                have hne5 : ∀ g, (Value.slice A5 (us.length + 1) c5).ownBlock = some g → g ≠ sb := fun g hg => by
                  rcases HV5.out with h | h
                  · rw [hg] at h; intro e; subst e; exact hu1.out h
                  · rw [hg] at h; have := Option.some.inj h; omega
                refine ⟨rfl, _, HK5.out.set 11 _, ?_, ?_, ?_⟩
                · rw [HF.out]; exact owns_of HO5.out (fun g hg => Below.heap_setCell _ _ _ _ (hne5 g hg))
                · rcases HV5.out with h | h
                  · exact .inl h
                  · exact .inr ⟨_, h, by omega⟩
                · exact (((Grown2.of HG0.out _).trans (Grown2.of (gr_below HB5.out _) _)).trans (Grown2.of' HG5.out _)).trans (Grown2.of (gr_set _ _ _ _) _)
              exact AllReadyH.nil
            exact AllReadyH.nil
          exact AllReadyH.nil
        exact AllReadyH.nil
      refine rh_cons (i := 16) rfl (fun K hK => ?_) ?_
      · go_simp
        refine (mustR_ok _ _ _ _).mono ?_
        rintro e w2 ⟨rfl, hb2⟩
        have HB0 := Lib.hid (below_next HB0.out (Nat.le_refl _) hb2)
        have S1 := UseS.next hHeld hb2
        obtain ⟨q11, f11⟩ := (HK0.out.below HB0.out HK0.out.lt).at 11 _ rfl
        clear hb2
        go_wp2_with fail
        refine hK.out _ _ ?_ (fun hHeld => ?_)
        · (try dsimp only)
          exact S1
        clear hK K
        (try simp only [Act.put, List.setIfInBounds_toArray, List.set_cons_zero, List.set_cons_succ])
        refine rp_take (i := 20) (v := ?_) rfl (by kernel_rfl) (by kernel_rfl) (by kernel_rfl) (by rfl) (by assumption) ?_ (by exact fun _ _ _ h => h) ?_
        rotate_left
        · (intro w hSw; (try dsimp only at hSw); go_simp; try (with_reducible rfl))
        (try simp only [Act.put, List.setIfInBounds_toArray, List.set_cons_zero, List.set_cons_succ])
        refine wpAnyH_ready (rs := [4, 21]) (by kernel_rfl) (by simp) ?_
        refine rh_cons (i := 4) rfl (fun K hK => ?_) ?_
        · go_simp
          have S1 := hHeld
          refine hK.out _ _ ?_ (fun hHeld => ?_)
          · (try dsimp only)
            exact S1
          clear hK K
          (try simp only [Act.put, List.setIfInBounds_toArray, List.set_cons_zero, List.set_cons_succ])
          refine wpAnyH_ready (rs := [21]) (by kernel_rfl) (by simp) ?_
          refine rh_cons (i := 21) rfl (fun K hK => ?_) ?_
          · go_simp
            have hb3 := (Below.refl w2.heap.size w2).alloc (Nat.le_refl _) (.cells ([.int .i64 A, .bool q.neg, .string (bs q.n), .string (bs q.d), .bool false, .bool bk] : List Value).toArray 58)
            have HB0 := Lib.hid (below_next HB0.out (Nat.le_refl _) hb3)
            have S1 := UseS.next hHeld hb3
            obtain ⟨q11, f11⟩ := (HK0.out.below HB0.out HK0.out.lt).at 11 _ rfl
            have HN3 := Lib.hid (Blk.new w2 [.int .i64 A, .bool q.neg, .string (bs q.n), .string (bs q.d), .bool false, .bool bk] 58)
            clear hb3
            refine hK.out _ _ ?_ (fun hHeld => ?_)
            · (try dsimp only)
              exact S1
            clear hK K
            (try simp only [Act.put, List.setIfInBounds_toArray, List.set_cons_zero, List.set_cons_succ])
            refine wpAnyH_ready (rs := [22]) (by kernel_rfl) (by simp) ?_
            refine rh_cons (i := 22) rfl (fun K hK => ?_) ?_
            · skip
              refine step_append_any _ rfl (.tmp 8) (.tmp 25) 29 rfl B0 58 i0 _ 6 56 Tryz.underlying29 hi0 hz0 hz1 hz2 rfl (by omega) uv us.length (useC us) rfl (owns_of HU0.out (fun g hg => HB0.out.block g (owns_lt HU0.out hg))) (w2.heap.size + 1) (some ⟨w2.heap.size, 0, none⟩) 1 1 [.int .i64 A, .bool q.neg, .string (bs q.n), .string (bs q.d), .bool false, .bool bk] rfl ?_ ?_ ?_ ?_ ?_ ?_
              · exact reads_new HN3.out
              · intro u hu; simp at hu; rcases hu with rfl | rfl | rfl | rfl | rfl | rfl <;> rfl
              · simp only [maxLen]; omega
              · omega
              · have := HB0.out.size; have := HZ0.out; omega
              intro v5 w5 hown5 hg5 hbk5
              obtain ⟨A5, c5, rfl⟩ := owns_slice hown5
              have HO5 := Lib.hid hown5
              have HG5 := Lib.hid hg5
              have HK5 := Lib.hid ((HK0.out.below HB0.out HK0.out.lt).grown hg5 hu1.out)
              have S1 := UseS.grown hHeld hg5 hu1.out hu2.out
              have HV5 := Lib.hid hbk5
              have HB5 := Lib.hid HB0.out
              obtain ⟨q11, f11⟩ := HK5.out.at 11 _ rfl
              clear hown5 hg5 hbk5
              refine hK.out _ _ ?_ (fun hHeld => ?_)
              · (try dsimp only)
                exact S1
              clear hK K
              (try simp only [Act.put, List.setIfInBounds_toArray, List.set_cons_zero, List.set_cons_succ])
              refine rp_take (i := 23) (v := ?_) rfl (by kernel_rfl) (by kernel_rfl) (by kernel_rfl) (by rfl) (by assumption) ?_ (by exact fun _ _ _ h => h) ?_
              rotate_left
              · (intro w hSw; (try dsimp only at hSw); go_simp; try (with_reducible rfl))
              (try simp only [Act.put, List.setIfInBounds_toArray, List.set_cons_zero, List.set_cons_succ])
              refine rp_take (i := 24) (v := ?_) rfl (by kernel_rfl) (by kernel_rfl) (by kernel_rfl) (by rfl) (by assumption) ?_ (by exact fun _ _ _ h => h) ?_
              rotate_left
              · (intro w hSw; (try dsimp only at hSw); go_simp; try (with_reducible rfl))
              (try simp only [Act.put, List.setIfInBounds_toArray, List.set_cons_zero, List.set_cons_succ])
              refine wpAnyH_ready (rs := [25]) (by kernel_rfl) (by simp) ?_
              refine rh_cons (i := 25) rfl (fun K hK => ?_) ?_
              · go_simp
                have S1 := UseS.set hHeld ne1 11 (by omega) (.slice A5 (us.length + 1) c5)
                refine hK.out _ _ ?_ (fun hHeld => ?_)
                · (try dsimp only)
                  exact S1
                clear hK K
                (try simp only [Act.put, List.setIfInBounds_toArray, List.set_cons_zero, List.set_cons_succ])
                refine wpAnyH_done (by kernel_rfl) ?_ _
                go_wp2
                go_end0
                have hsz5 := HB5.out.size
                have hz5 := HZ0.out
                have hne5 : ∀ g, (Value.slice A5 (us.length + 1) c5).ownBlock = some g → g ≠ sb := fun g hg => by
                  rcases HV5.out with h | h
                  · rw [hg] at h; intro e; subst e; exact hu1.out h
                  · rw [hg] at h; have := Option.some.inj h; omega
                refine ⟨rfl, _, HK5.out.set 11 _, ?_, ?_, ?_⟩
                · rw [HF.out]; exact owns_of HO5.out (fun g hg => Below.heap_setCell _ _ _ _ (hne5 g hg))
                · rcases HV5.out with h | h
                  · exact .inl h
                  · exact .inr ⟨_, h, by omega⟩
                · exact (((Grown2.of HG0.out _).trans (Grown2.of (gr_below HB5.out _) _)).trans (Grown2.of' HG5.out _)).trans (Grown2.of (gr_set _ _ _ _) _)
              exact AllReadyH.nil
            exact AllReadyH.nil
          exact AllReadyH.nil
        refine rh_cons (i := 21) rfl (fun K hK => ?_) ?_
        · go_simp
          have hb3 := (Below.refl w2.heap.size w2).alloc (Nat.le_refl _) (.cells ([.int .i64 A, .bool q.neg, .string (bs q.n), .string (bs q.d), .bool false, .bool bk] : List Value).toArray 58)
          have HB0 := Lib.hid (below_next HB0.out (Nat.le_refl _) hb3)
          have S1 := UseS.next hHeld hb3
          obtain ⟨q11, f11⟩ := (HK0.out.below HB0.out HK0.out.lt).at 11 _ rfl
          have HN3 := Lib.hid (Blk.new w2 [.int .i64 A, .bool q.neg, .string (bs q.n), .string (bs q.d), .bool false, .bool bk] 58)
          clear hb3
          refine hK.out _ _ ?_ (fun hHeld => ?_)
          · (try dsimp only)
            exact S1
          clear hK K
          (try simp only [Act.put, List.setIfInBounds_toArray, List.set_cons_zero, List.set_cons_succ])
          refine wpAnyH_ready (rs := [4]) (by kernel_rfl) (by simp) ?_
          refine rh_cons (i := 4) rfl (fun K hK => ?_) ?_
          · go_simp
            have S1 := hHeld
            refine hK.out _ _ ?_ (fun hHeld => ?_)
            · (try dsimp only)
              exact S1
            clear hK K
            (try simp only [Act.put, List.setIfInBounds_toArray, List.set_cons_zero, List.set_cons_succ])
            refine wpAnyH_ready (rs := [22]) (by kernel_rfl) (by simp) ?_
            refine rh_cons (i := 22) rfl (fun K hK => ?_) ?_
            · skip
              refine step_append_any _ rfl (.tmp 8) (.tmp 25) 29 rfl B0 58 i0 _ 6 56 Tryz.underlying29 hi0 hz0 hz1 hz2 rfl (by omega) uv us.length (useC us) rfl (owns_of HU0.out (fun g hg => HB0.out.block g (owns_lt HU0.out hg))) (w2.heap.size + 1) (some ⟨w2.heap.size, 0, none⟩) 1 1 [.int .i64 A, .bool q.neg, .string (bs q.n), .string (bs q.d), .bool false, .bool bk] rfl ?_ ?_ ?_ ?_ ?_ ?_
              · exact reads_new HN3.out
              · intro u hu; simp at hu; rcases hu with rfl | rfl | rfl | rfl | rfl | rfl <;> rfl
              · simp only [maxLen]; omega
              · omega
              · have := HB0.out.size; have := HZ0.out; omega
              intro v5 w5 hown5 hg5 hbk5
              obtain ⟨A5, c5, rfl⟩ := owns_slice hown5
              have HO5 := Lib.hid hown5
              have HG5 := Lib.hid hg5
              have HK5 := Lib.hid ((HK0.out.below HB0.out HK0.out.lt).grown hg5 hu1.out)
              have S1 := UseS.grown hHeld hg5 hu1.out hu2.out
              have HV5 := Lib.hid hbk5
              have HB5 := Lib.hid HB0.out
              obtain ⟨q11, f11⟩ := HK5.out.at 11 _ rfl
              clear hown5 hg5 hbk5
              refine hK.out _ _ ?_ (fun hHeld => ?_)
              · (try dsimp only)
                exact S1
              clear hK K
              (try simp only [Act.put, List.setIfInBounds_toArray, List.set_cons_zero, List.set_cons_succ])
              refine rp_take (i := 23) (v := ?_) rfl (by kernel_rfl) (by kernel_rfl) (by kernel_rfl) (by rfl) (by assumption) ?_ (by exact fun _ _ _ h => h) ?_
              rotate_left
              · (intro w hSw; (try dsimp only at hSw); go_simp; try (with_reducible rfl))
              (try simp only [Act.put, List.setIfInBounds_toArray, List.set_cons_zero, List.set_cons_succ])
              refine rp_take (i := 24) (v := ?_) rfl (by kernel_rfl) (by kernel_rfl) (by kernel_rfl) (by rfl) (by assumption) ?_ (by exact fun _ _ _ h => h) ?_
              rotate_left
              · (intro w hSw; (try dsimp only at hSw); go_simp; try (with_reducible rfl))
              (try simp only [Act.put, List.setIfInBounds_toArray, List.set_cons_zero, List.set_cons_succ])
              refine wpAnyH_ready (rs := [25]) (by kernel_rfl) (by simp) ?_
              refine rh_cons (i := 25) rfl (fun K hK => ?_) ?_
              · go_simp
                have S1 := UseS.set hHeld ne1 11 (by omega) (.slice A5 (us.length + 1) c5)
                refine hK.out _ _ ?_ (fun hHeld => ?_)
                · (try dsimp only)
                  exact S1
                clear hK K
                (try simp only [Act.put, List.setIfInBounds_toArray, List.set_cons_zero, List.set_cons_succ])
                refine wpAnyH_done (by kernel_rfl) ?_ _
                go_wp2
                go_end0
                have hsz5 := HB5.out.size
                have hz5 := HZ0.out
                have hne5 : ∀ g, (Value.slice A5 (us.length + 1) c5).ownBlock = some g → g ≠ sb := fun g hg => by
                  rcases HV5.out with h | h
                  · rw [hg] at h; intro e; subst e; exact hu1.out h
                  · rw [hg] at h; have := Option.some.inj h; omega
                refine ⟨rfl, _, HK5.out.set 11 _, ?_, ?_, ?_⟩
                · rw [HF.out]; exact owns_of HO5.out (fun g hg => Below.heap_setCell _ _ _ _ (hne5 g hg))
                · rcases HV5.out with h | h
                  · exact .inl h
                  · exact .inr ⟨_, h, by omega⟩
                · exact (((Grown2.of HG0.out _).trans (Grown2.of (gr_below HB5.out _) _)).trans (Grown2.of' HG5.out _)).trans (Grown2.of (gr_set _ _ _ _) _)
              exact AllReadyH.nil
            exact AllReadyH.nil
          exact AllReadyH.nil
        exact AllReadyH.nil
      exact AllReadyH.nil
    exact AllReadyH.nil
    -- </useok>

set_option maxRecDepth 100000 in
set_option maxHeartbeats 4000000 in
theorem give_any (B0 sb : Nat) (cv : Value) (day : Int) (amt bat r : Rt) (next fuel lead : Int) (uv wv : Value) (us : List UseR) (A B : Int) (w : World) (hs : Blk w sb (stC cv day amt bat next fuel lead uv wv) 66)
    (hu : w.ownsRow B0 58 6 uv us.length (useC us)) (hn : us.length ≤ 65536) (hB : B0 ≤ w.heap.size) (hus : uv.ownBlock ≠ some sb) (ha : bat.ok) (hr : r.ok) (hT : Tab w) :
    Calls Tryz.prog 41 #[.pointer (some ⟨sb, 0, none⟩), .agg #[.int .i64 5, .int .i64 A, .int .i64 B, .bool r.neg, .string (bs r.n), .string (bs r.d)]] w (UsePost B0 w sb cv day amt bat next fuel lead uv wv us ((mulR r bat).map fun q => ⟨A, q, true, false⟩)) := by
  have HD := Lib.hid (fun W (hW : Tab W) => rmul_any r bat W hr ha hW)
  have HT := Lib.hid hT
  have HU := Lib.hid hu
  have hlt := hs.lt
  have HS := Lib.hid hs
  have hu1 : Hid (some sb ≠ uv.ownBlock) := fun e => hus e.symm
  have hu2 : Hid (some w.heap.size ≠ uv.ownBlock) := fun e => by have := owns_lt hu e.symm; omega
  obtain ⟨i0, hi0, hz0, hz1, hz2⟩ := info_parts use_info
  clear hs ha hr hT hu hus
  generalize mulR r bat = o at *
  unfold ratV at HD
  have ne1 : ¬ w.heap.size = sb := by omega
  have ne2 : ¬ sb = w.heap.size := by omega
  cases o
  all_goals simp only [calcV, Option.map] at HD ⊢
  case none =>
    go_enter Tryz.func41, Tryz.ntmps41
    go_wp2
    obtain ⟨W0, hW0⟩ : ∃ W0, w.alloc (.cells #[.int .i64 5, .int .i64 A, .int .i64 B, .bool r.neg, .string (bs r.n), .string (bs r.d)] 40) = W0 := ⟨_, rfl⟩
    have K0 : Blk W0.drew sb (stC cv day amt bat next fuel lead uv wv) 66 := by rw [← hW0]; exact (HS.out.alloc _).drew
    have L0 : Blk W0.drew w.heap.size [.int .i64 5, .int .i64 A, .int .i64 B, .bool r.neg, .string (bs r.n), .string (bs r.d)] 40 := by rw [← hW0]; exact (Blk.new w _ _).drew
    have T0 : Tab W0.drew := by rw [← hW0]; exact (HT.out.below ((Below.refl w.heap.size w).alloc (Nat.le_refl _) _)).drew
    have G0 : w.grownBy W0.drew (some sb) := by rw [← hW0]; exact (gr_alloc _ _ _).trans (gr_drew _ _)
    have Z0 : W0.drew.heap.size = w.heap.size + 1 := by rw [← hW0]; show (w.alloc _).heap.size = _; simp
    have S0 : UseS sb w.heap.size bat A B r.neg (bs r.n) (bs r.d) W0.drew := ⟨(L0.at 1 _ rfl).1, (L0.at 2 _ rfl).1, (L0.at 3 _ rfl).1, (L0.at 4 _ rfl).1, (L0.at 5 _ rfl).1, (K0.at 5 _ rfl).1, (K0.at 6 _ rfl).1, (K0.at 7 _ rfl).1⟩
    have U0 : W0.drew.ownsRow B0 58 6 uv us.length (useC us) := owns_of HU.out (fun g hg => by rw [← hW0]; exact Below.heap_alloc _ _ _ (owns_lt HU.out hg))
    obtain ⟨q11, f11⟩ := K0.at 11 _ rfl
    rw [hW0]
    have HG0 := Lib.hid G0
    have HK0 := Lib.hid K0
    have HT0 := Lib.hid T0
    have HU0 := Lib.hid U0
    have HZ0 := Lib.hid Z0
    have HB0 := Lib.hid (Below.refl W0.drew.heap.size W0.drew)
    clear hW0 G0 K0 L0 T0 U0 Z0
    -- <giveno>
    refine wp_region_held_drew (S := (fun w' => w'.cell? ⟨w.heap.size, 1, none⟩ = some (.int .i64 A) ∧ w'.cell? ⟨w.heap.size, 2, none⟩ = some (.int .i64 B) ∧ w'.cell? ⟨w.heap.size, 3, none⟩ = some (.bool r.neg) ∧ w'.cell? ⟨w.heap.size, 4, none⟩ = some (.string (bs r.n)) ∧ w'.cell? ⟨w.heap.size, 5, none⟩ = some (.string (bs r.d)) ∧ w'.cell? ⟨sb, 5, none⟩ = some (.bool bat.neg) ∧ w'.cell? ⟨sb, 6, none⟩ = some (.string (bs bat.n)) ∧ w'.cell? ⟨sb, 7, none⟩ = some (.string (bs bat.d)))) (by kernel_rfl) ?_ (fun hHeld => ?_)
    · exact S0
    refine rp_take (i := 0) (v := ?_) rfl (by kernel_rfl) (by kernel_rfl) (by kernel_rfl) (by rfl) (by assumption) ?_ (by exact fun _ _ _ h => h) ?_
    rotate_left
    · (intro w hSw; (try dsimp only at hSw); go_simp; try (with_reducible rfl))
    (try simp only [Act.put, List.setIfInBounds_toArray, List.set_cons_zero, List.set_cons_succ])
    refine rp_take (i := 1) (v := ?_) rfl (by kernel_rfl) (by kernel_rfl) (by kernel_rfl) (by rfl) (by assumption) ?_ (by exact fun _ _ _ h => h) ?_
    rotate_left
    · (intro w hSw; (try dsimp only at hSw); go_simp; try (with_reducible rfl))
    (try simp only [Act.put, List.setIfInBounds_toArray, List.set_cons_zero, List.set_cons_succ])
    refine rp_take (i := 2) (v := ?_) rfl (by kernel_rfl) (by kernel_rfl) (by kernel_rfl) (by rfl) (by assumption) ?_ (by exact fun _ _ _ h => h) ?_
    rotate_left
    · (intro w hSw; (try dsimp only at hSw); go_simp; try (with_reducible rfl))
    (try simp only [Act.put, List.setIfInBounds_toArray, List.set_cons_zero, List.set_cons_succ])
    refine rp_take (i := 3) (v := ?_) rfl (by kernel_rfl) (by kernel_rfl) (by kernel_rfl) (by rfl) (by assumption) ?_ (by exact fun _ _ _ h => h) ?_
    rotate_left
    · (intro w hSw; (try dsimp only at hSw); go_simp; try (with_reducible rfl))
    (try simp only [Act.put, List.setIfInBounds_toArray, List.set_cons_zero, List.set_cons_succ])
    refine rp_take (i := 5) (v := ?_) rfl (by kernel_rfl) (by kernel_rfl) (by kernel_rfl) (by rfl) (by assumption) ?_ (by exact fun _ _ _ h => h) ?_
    rotate_left
    · (intro w hSw; (try dsimp only at hSw); go_simp; try (with_reducible rfl))
    (try simp only [Act.put, List.setIfInBounds_toArray, List.set_cons_zero, List.set_cons_succ])
    refine rp_take (i := 6) (v := ?_) rfl (by kernel_rfl) (by kernel_rfl) (by kernel_rfl) (by rfl) (by assumption) ?_ (by exact fun _ _ _ h => h) ?_
    rotate_left
    · (intro w hSw; (try dsimp only at hSw); go_simp; try (with_reducible rfl))
    (try simp only [Act.put, List.setIfInBounds_toArray, List.set_cons_zero, List.set_cons_succ])
    refine rp_take (i := 7) (v := ?_) rfl (by kernel_rfl) (by kernel_rfl) (by kernel_rfl) (by rfl) (by assumption) ?_ (by exact fun _ _ _ h => h) ?_
    rotate_left
    · (intro w hSw; (try dsimp only at hSw); go_simp; try (with_reducible rfl))
    (try simp only [Act.put, List.setIfInBounds_toArray, List.set_cons_zero, List.set_cons_succ])
    refine rp_take (i := 8) (v := ?_) rfl (by kernel_rfl) (by kernel_rfl) (by kernel_rfl) (by rfl) (by assumption) ?_ (by exact fun _ _ _ h => h) ?_
    rotate_left
    · (intro w hSw; (try dsimp only at hSw); go_simp; try (with_reducible rfl))
    (try simp only [Act.put, List.setIfInBounds_toArray, List.set_cons_zero, List.set_cons_succ])
    refine rp_take (i := 9) (v := ?_) rfl (by kernel_rfl) (by kernel_rfl) (by kernel_rfl) (by rfl) (by assumption) ?_ (by exact fun _ _ _ h => h) ?_
    rotate_left
    · (intro w hSw; (try dsimp only at hSw); go_simp; try (with_reducible rfl))
    (try simp only [Act.put, List.setIfInBounds_toArray, List.set_cons_zero, List.set_cons_succ])
    refine rp_take (i := 10) (v := ?_) rfl (by kernel_rfl) (by kernel_rfl) (by kernel_rfl) (by rfl) (by assumption) ?_ (by exact fun _ _ _ h => h) ?_
    rotate_left
    · (intro w hSw; (try dsimp only at hSw); go_simp; try (with_reducible rfl))
    (try simp only [Act.put, List.setIfInBounds_toArray, List.set_cons_zero, List.set_cons_succ])
    refine rp_take (i := 11) (v := ?_) rfl (by kernel_rfl) (by kernel_rfl) (by kernel_rfl) (by rfl) (by assumption) ?_ (by exact fun _ _ _ h => h) ?_
    rotate_left
    · (intro w hSw; (try dsimp only at hSw); go_simp; try (with_reducible rfl))
    (try simp only [Act.put, List.setIfInBounds_toArray, List.set_cons_zero, List.set_cons_succ])
    refine rp_take (i := 12) (v := ?_) rfl (by kernel_rfl) (by kernel_rfl) (by kernel_rfl) (by rfl) (by assumption) ?_ (by exact fun _ _ _ h => h) ?_
    rotate_left
    · (intro w hSw; (try dsimp only at hSw); go_simp; try (with_reducible rfl))
    (try simp only [Act.put, List.setIfInBounds_toArray, List.set_cons_zero, List.set_cons_succ])
    refine wpAnyH_ready (rs := [4, 13]) (by kernel_rfl) (by simp) ?_
    refine rh_cons (i := 4) rfl (fun K hK => ?_) ?_
    · go_simp
      have S1 := hHeld
      refine hK.out _ _ ?_ (fun hHeld => ?_)
      · (try dsimp only)
        exact S1
      clear hK K
      (try simp only [Act.put, List.setIfInBounds_toArray, List.set_cons_zero, List.set_cons_succ])
      refine wpAnyH_ready (rs := [13]) (by kernel_rfl) (by simp) ?_
      refine rh_cons (i := 13) rfl (fun K hK => ?_) ?_
      · go_simp
        refine (HD.out _ HT0.out).mono ?_
        rintro e w1 ⟨rfl, hb1⟩
        have HB0 := Lib.hid (below_next HB0.out (Nat.le_refl _) hb1)
        have S1 := UseS.next hHeld hb1
        obtain ⟨q11, f11⟩ := (HK0.out.below HB0.out HK0.out.lt).at 11 _ rfl
        clear hb1
        go_wp2_with fail
        refine hK.out _ _ ?_ (fun hHeld => ?_)
        · (try dsimp only)
          exact S1
        clear hK K
        (try simp only [Act.put, List.setIfInBounds_toArray, List.set_cons_zero, List.set_cons_succ])
        refine rp_take (i := 14) (v := ?_) rfl (by kernel_rfl) (by kernel_rfl) (by kernel_rfl) (by rfl) (by assumption) ?_ (by exact fun _ _ _ h => h) ?_
        rotate_left
        · (intro w hSw; (try dsimp only at hSw); go_simp; try (with_reducible rfl))
        (try simp only [Act.put, List.setIfInBounds_toArray, List.set_cons_zero, List.set_cons_succ])
        refine rp_take (i := 15) (v := ?_) rfl (by kernel_rfl) (by kernel_rfl) (by kernel_rfl) (by rfl) (by assumption) ?_ (by exact fun _ _ _ h => h) ?_
        rotate_left
        · (intro w hSw; (try dsimp only at hSw); go_simp; try (with_reducible rfl))
        (try simp only [Act.put, List.setIfInBounds_toArray, List.set_cons_zero, List.set_cons_succ])
        refine wpAnyH_ready (rs := [16]) (by kernel_rfl) (by simp) ?_
        refine rh_cons (i := 16) rfl (fun K hK => ?_) ?_
        · go_simp
          refine (mustR_no _ _ _ 2 (by omega) _).mono ?_
          rintro e w2 ⟨rfl, hb2⟩
          have HB0 := Lib.hid (below_next HB0.out (Nat.le_refl _) hb2)
          exact ⟨rfl, rfl, HK0.out.below HB0.out HK0.out.lt, Grown2.of (HG0.out.trans (gr_below HB0.out _)) _⟩
        exact AllReadyH.nil
      exact AllReadyH.nil
    refine rh_cons (i := 13) rfl (fun K hK => ?_) ?_
    · go_simp
      refine (HD.out _ HT0.out).mono ?_
      rintro e w1 ⟨rfl, hb1⟩
      have HB0 := Lib.hid (below_next HB0.out (Nat.le_refl _) hb1)
      have S1 := UseS.next hHeld hb1
      obtain ⟨q11, f11⟩ := (HK0.out.below HB0.out HK0.out.lt).at 11 _ rfl
      clear hb1
      go_wp2_with fail
      refine hK.out _ _ ?_ (fun hHeld => ?_)
      · (try dsimp only)
        exact S1
      clear hK K
      (try simp only [Act.put, List.setIfInBounds_toArray, List.set_cons_zero, List.set_cons_succ])
      refine rp_take (i := 14) (v := ?_) rfl (by kernel_rfl) (by kernel_rfl) (by kernel_rfl) (by rfl) (by assumption) ?_ (by exact fun _ _ _ h => h) ?_
      rotate_left
      · (intro w hSw; (try dsimp only at hSw); go_simp; try (with_reducible rfl))
      (try simp only [Act.put, List.setIfInBounds_toArray, List.set_cons_zero, List.set_cons_succ])
      refine rp_take (i := 15) (v := ?_) rfl (by kernel_rfl) (by kernel_rfl) (by kernel_rfl) (by rfl) (by assumption) ?_ (by exact fun _ _ _ h => h) ?_
      rotate_left
      · (intro w hSw; (try dsimp only at hSw); go_simp; try (with_reducible rfl))
      (try simp only [Act.put, List.setIfInBounds_toArray, List.set_cons_zero, List.set_cons_succ])
      refine wpAnyH_ready (rs := [4, 16]) (by kernel_rfl) (by simp) ?_
      refine rh_cons (i := 4) rfl (fun K hK => ?_) ?_
      · go_simp
        have S1 := hHeld
        refine hK.out _ _ ?_ (fun hHeld => ?_)
        · (try dsimp only)
          exact S1
        clear hK K
        (try simp only [Act.put, List.setIfInBounds_toArray, List.set_cons_zero, List.set_cons_succ])
        refine wpAnyH_ready (rs := [16]) (by kernel_rfl) (by simp) ?_
        refine rh_cons (i := 16) rfl (fun K hK => ?_) ?_
        · go_simp
          refine (mustR_no _ _ _ 2 (by omega) _).mono ?_
          rintro e w2 ⟨rfl, hb2⟩
          have HB0 := Lib.hid (below_next HB0.out (Nat.le_refl _) hb2)
          exact ⟨rfl, rfl, HK0.out.below HB0.out HK0.out.lt, Grown2.of (HG0.out.trans (gr_below HB0.out _)) _⟩
        exact AllReadyH.nil
      refine rh_cons (i := 16) rfl (fun K hK => ?_) ?_
      · go_simp
        refine (mustR_no _ _ _ 2 (by omega) _).mono ?_
        rintro e w2 ⟨rfl, hb2⟩
        have HB0 := Lib.hid (below_next HB0.out (Nat.le_refl _) hb2)
        exact ⟨rfl, rfl, HK0.out.below HB0.out HK0.out.lt, Grown2.of (HG0.out.trans (gr_below HB0.out _)) _⟩
      exact AllReadyH.nil
    exact AllReadyH.nil
    -- </giveno>
  case some q =>
    have HF := Lib.hid (useC_snoc us ⟨A, q, true, false⟩)
    simp only [useV] at HF
    have HBK : Hid True := trivial
    go_enter Tryz.func41, Tryz.ntmps41
    go_wp2
    obtain ⟨W0, hW0⟩ : ∃ W0, w.alloc (.cells #[.int .i64 5, .int .i64 A, .int .i64 B, .bool r.neg, .string (bs r.n), .string (bs r.d)] 40) = W0 := ⟨_, rfl⟩
    have K0 : Blk W0.drew sb (stC cv day amt bat next fuel lead uv wv) 66 := by rw [← hW0]; exact (HS.out.alloc _).drew
    have L0 : Blk W0.drew w.heap.size [.int .i64 5, .int .i64 A, .int .i64 B, .bool r.neg, .string (bs r.n), .string (bs r.d)] 40 := by rw [← hW0]; exact (Blk.new w _ _).drew
    have T0 : Tab W0.drew := by rw [← hW0]; exact (HT.out.below ((Below.refl w.heap.size w).alloc (Nat.le_refl _) _)).drew
    have G0 : w.grownBy W0.drew (some sb) := by rw [← hW0]; exact (gr_alloc _ _ _).trans (gr_drew _ _)
    have Z0 : W0.drew.heap.size = w.heap.size + 1 := by rw [← hW0]; show (w.alloc _).heap.size = _; simp
    have S0 : UseS sb w.heap.size bat A B r.neg (bs r.n) (bs r.d) W0.drew := ⟨(L0.at 1 _ rfl).1, (L0.at 2 _ rfl).1, (L0.at 3 _ rfl).1, (L0.at 4 _ rfl).1, (L0.at 5 _ rfl).1, (K0.at 5 _ rfl).1, (K0.at 6 _ rfl).1, (K0.at 7 _ rfl).1⟩
    have U0 : W0.drew.ownsRow B0 58 6 uv us.length (useC us) := owns_of HU.out (fun g hg => by rw [← hW0]; exact Below.heap_alloc _ _ _ (owns_lt HU.out hg))
    obtain ⟨q11, f11⟩ := K0.at 11 _ rfl
    rw [hW0]
    have HG0 := Lib.hid G0
    have HK0 := Lib.hid K0
    have HT0 := Lib.hid T0
    have HU0 := Lib.hid U0
    have HZ0 := Lib.hid Z0
    have HB0 := Lib.hid (Below.refl W0.drew.heap.size W0.drew)
    clear hW0 G0 K0 L0 T0 U0 Z0
    -- <giveok>
    refine wp_region_held_drew (S := (fun w' => w'.cell? ⟨w.heap.size, 1, none⟩ = some (.int .i64 A) ∧ w'.cell? ⟨w.heap.size, 2, none⟩ = some (.int .i64 B) ∧ w'.cell? ⟨w.heap.size, 3, none⟩ = some (.bool r.neg) ∧ w'.cell? ⟨w.heap.size, 4, none⟩ = some (.string (bs r.n)) ∧ w'.cell? ⟨w.heap.size, 5, none⟩ = some (.string (bs r.d)) ∧ w'.cell? ⟨sb, 5, none⟩ = some (.bool bat.neg) ∧ w'.cell? ⟨sb, 6, none⟩ = some (.string (bs bat.n)) ∧ w'.cell? ⟨sb, 7, none⟩ = some (.string (bs bat.d)))) (by kernel_rfl) ?_ (fun hHeld => ?_)
    · exact S0
    refine rp_take (i := 0) (v := ?_) rfl (by kernel_rfl) (by kernel_rfl) (by kernel_rfl) (by rfl) (by assumption) ?_ (by exact fun _ _ _ h => h) ?_
    rotate_left
    · (intro w hSw; (try dsimp only at hSw); go_simp; try (with_reducible rfl))
    (try simp only [Act.put, List.setIfInBounds_toArray, List.set_cons_zero, List.set_cons_succ])
    refine rp_take (i := 1) (v := ?_) rfl (by kernel_rfl) (by kernel_rfl) (by kernel_rfl) (by rfl) (by assumption) ?_ (by exact fun _ _ _ h => h) ?_
    rotate_left
    · (intro w hSw; (try dsimp only at hSw); go_simp; try (with_reducible rfl))
    (try simp only [Act.put, List.setIfInBounds_toArray, List.set_cons_zero, List.set_cons_succ])
    refine rp_take (i := 2) (v := ?_) rfl (by kernel_rfl) (by kernel_rfl) (by kernel_rfl) (by rfl) (by assumption) ?_ (by exact fun _ _ _ h => h) ?_
    rotate_left
    · (intro w hSw; (try dsimp only at hSw); go_simp; try (with_reducible rfl))
    (try simp only [Act.put, List.setIfInBounds_toArray, List.set_cons_zero, List.set_cons_succ])
    refine rp_take (i := 3) (v := ?_) rfl (by kernel_rfl) (by kernel_rfl) (by kernel_rfl) (by rfl) (by assumption) ?_ (by exact fun _ _ _ h => h) ?_
    rotate_left
    · (intro w hSw; (try dsimp only at hSw); go_simp; try (with_reducible rfl))
    (try simp only [Act.put, List.setIfInBounds_toArray, List.set_cons_zero, List.set_cons_succ])
    refine rp_take (i := 5) (v := ?_) rfl (by kernel_rfl) (by kernel_rfl) (by kernel_rfl) (by rfl) (by assumption) ?_ (by exact fun _ _ _ h => h) ?_
    rotate_left
    · (intro w hSw; (try dsimp only at hSw); go_simp; try (with_reducible rfl))
    (try simp only [Act.put, List.setIfInBounds_toArray, List.set_cons_zero, List.set_cons_succ])
    refine rp_take (i := 6) (v := ?_) rfl (by kernel_rfl) (by kernel_rfl) (by kernel_rfl) (by rfl) (by assumption) ?_ (by exact fun _ _ _ h => h) ?_
    rotate_left
    · (intro w hSw; (try dsimp only at hSw); go_simp; try (with_reducible rfl))
    (try simp only [Act.put, List.setIfInBounds_toArray, List.set_cons_zero, List.set_cons_succ])
    refine rp_take (i := 7) (v := ?_) rfl (by kernel_rfl) (by kernel_rfl) (by kernel_rfl) (by rfl) (by assumption) ?_ (by exact fun _ _ _ h => h) ?_
    rotate_left
    · (intro w hSw; (try dsimp only at hSw); go_simp; try (with_reducible rfl))
    (try simp only [Act.put, List.setIfInBounds_toArray, List.set_cons_zero, List.set_cons_succ])
    refine rp_take (i := 8) (v := ?_) rfl (by kernel_rfl) (by kernel_rfl) (by kernel_rfl) (by rfl) (by assumption) ?_ (by exact fun _ _ _ h => h) ?_
    rotate_left
    · (intro w hSw; (try dsimp only at hSw); go_simp; try (with_reducible rfl))
    (try simp only [Act.put, List.setIfInBounds_toArray, List.set_cons_zero, List.set_cons_succ])
    refine rp_take (i := 9) (v := ?_) rfl (by kernel_rfl) (by kernel_rfl) (by kernel_rfl) (by rfl) (by assumption) ?_ (by exact fun _ _ _ h => h) ?_
    rotate_left
    · (intro w hSw; (try dsimp only at hSw); go_simp; try (with_reducible rfl))
    (try simp only [Act.put, List.setIfInBounds_toArray, List.set_cons_zero, List.set_cons_succ])
    refine rp_take (i := 10) (v := ?_) rfl (by kernel_rfl) (by kernel_rfl) (by kernel_rfl) (by rfl) (by assumption) ?_ (by exact fun _ _ _ h => h) ?_
    rotate_left
    · (intro w hSw; (try dsimp only at hSw); go_simp; try (with_reducible rfl))
    (try simp only [Act.put, List.setIfInBounds_toArray, List.set_cons_zero, List.set_cons_succ])
    refine rp_take (i := 11) (v := ?_) rfl (by kernel_rfl) (by kernel_rfl) (by kernel_rfl) (by rfl) (by assumption) ?_ (by exact fun _ _ _ h => h) ?_
    rotate_left
    · (intro w hSw; (try dsimp only at hSw); go_simp; try (with_reducible rfl))
    (try simp only [Act.put, List.setIfInBounds_toArray, List.set_cons_zero, List.set_cons_succ])
    refine rp_take (i := 12) (v := ?_) rfl (by kernel_rfl) (by kernel_rfl) (by kernel_rfl) (by rfl) (by assumption) ?_ (by exact fun _ _ _ h => h) ?_
    rotate_left
    · (intro w hSw; (try dsimp only at hSw); go_simp; try (with_reducible rfl))
    (try simp only [Act.put, List.setIfInBounds_toArray, List.set_cons_zero, List.set_cons_succ])
    refine wpAnyH_ready (rs := [4, 13]) (by kernel_rfl) (by simp) ?_
    refine rh_cons (i := 4) rfl (fun K hK => ?_) ?_
    · go_simp
      have S1 := hHeld
      refine hK.out _ _ ?_ (fun hHeld => ?_)
      · (try dsimp only)
        exact S1
      clear hK K
      (try simp only [Act.put, List.setIfInBounds_toArray, List.set_cons_zero, List.set_cons_succ])
      refine wpAnyH_ready (rs := [13]) (by kernel_rfl) (by simp) ?_
      refine rh_cons (i := 13) rfl (fun K hK => ?_) ?_
      · go_simp
        refine (HD.out _ HT0.out).mono ?_
        rintro e w1 ⟨rfl, hb1⟩
        have HB0 := Lib.hid (below_next HB0.out (Nat.le_refl _) hb1)
        have S1 := UseS.next hHeld hb1
        obtain ⟨q11, f11⟩ := (HK0.out.below HB0.out HK0.out.lt).at 11 _ rfl
        clear hb1
        go_wp2_with fail
        refine hK.out _ _ ?_ (fun hHeld => ?_)
        · (try dsimp only)
          exact S1
        clear hK K
        (try simp only [Act.put, List.setIfInBounds_toArray, List.set_cons_zero, List.set_cons_succ])
        refine rp_take (i := 14) (v := ?_) rfl (by kernel_rfl) (by kernel_rfl) (by kernel_rfl) (by rfl) (by assumption) ?_ (by exact fun _ _ _ h => h) ?_
        rotate_left
        · (intro w hSw; (try dsimp only at hSw); go_simp; try (with_reducible rfl))
        (try simp only [Act.put, List.setIfInBounds_toArray, List.set_cons_zero, List.set_cons_succ])
        refine rp_take (i := 15) (v := ?_) rfl (by kernel_rfl) (by kernel_rfl) (by kernel_rfl) (by rfl) (by assumption) ?_ (by exact fun _ _ _ h => h) ?_
        rotate_left
        · (intro w hSw; (try dsimp only at hSw); go_simp; try (with_reducible rfl))
        (try simp only [Act.put, List.setIfInBounds_toArray, List.set_cons_zero, List.set_cons_succ])
        refine wpAnyH_ready (rs := [16]) (by kernel_rfl) (by simp) ?_
        refine rh_cons (i := 16) rfl (fun K hK => ?_) ?_
        · go_simp
          refine (mustR_ok _ _ _ _).mono ?_
          rintro e w2 ⟨rfl, hb2⟩
          have HB0 := Lib.hid (below_next HB0.out (Nat.le_refl _) hb2)
          have S1 := UseS.next hHeld hb2
          obtain ⟨q11, f11⟩ := (HK0.out.below HB0.out HK0.out.lt).at 11 _ rfl
          clear hb2
          go_wp2_with fail
          refine hK.out _ _ ?_ (fun hHeld => ?_)
          · (try dsimp only)
            exact S1
          clear hK K
          (try simp only [Act.put, List.setIfInBounds_toArray, List.set_cons_zero, List.set_cons_succ])
          refine rp_take (i := 17) (v := ?_) rfl (by kernel_rfl) (by kernel_rfl) (by kernel_rfl) (by rfl) (by assumption) ?_ (by exact fun _ _ _ h => h) ?_
          rotate_left
          · (intro w hSw; (try dsimp only at hSw); go_simp; try (with_reducible rfl))
          (try simp only [Act.put, List.setIfInBounds_toArray, List.set_cons_zero, List.set_cons_succ])
          refine wpAnyH_ready (rs := [18]) (by kernel_rfl) (by simp) ?_
          refine rh_cons (i := 18) rfl (fun K hK => ?_) ?_
          · go_simp
            have hb3 := (Below.refl w2.heap.size w2).alloc (Nat.le_refl _) (.cells ([.int .i64 A, .bool q.neg, .string (bs q.n), .string (bs q.d), .bool true, .bool false] : List Value).toArray 58)
            have HB0 := Lib.hid (below_next HB0.out (Nat.le_refl _) hb3)
            have S1 := UseS.next hHeld hb3
            obtain ⟨q11, f11⟩ := (HK0.out.below HB0.out HK0.out.lt).at 11 _ rfl
            have HN3 := Lib.hid (Blk.new w2 [.int .i64 A, .bool q.neg, .string (bs q.n), .string (bs q.d), .bool true, .bool false] 58)
            clear hb3
            refine hK.out _ _ ?_ (fun hHeld => ?_)
            · (try dsimp only)
              exact S1
            clear hK K
            (try simp only [Act.put, List.setIfInBounds_toArray, List.set_cons_zero, List.set_cons_succ])
            refine wpAnyH_ready (rs := [19]) (by kernel_rfl) (by simp) ?_
            refine rh_cons (i := 19) rfl (fun K hK => ?_) ?_
            · skip
              refine step_append_any _ rfl (.tmp 8) (.tmp 22) 29 rfl B0 58 i0 _ 6 56 Tryz.underlying29 hi0 hz0 hz1 hz2 rfl (by omega) uv us.length (useC us) rfl (owns_of HU0.out (fun g hg => HB0.out.block g (owns_lt HU0.out hg))) (w2.heap.size + 1) (some ⟨w2.heap.size, 0, none⟩) 1 1 [.int .i64 A, .bool q.neg, .string (bs q.n), .string (bs q.d), .bool true, .bool false] rfl ?_ ?_ ?_ ?_ ?_ ?_
              · exact reads_new HN3.out
              · intro u hu; simp at hu; rcases hu with rfl | rfl | rfl | rfl | rfl | rfl <;> rfl
              · simp only [maxLen]; omega
              · omega
              · have := HB0.out.size; have := HZ0.out; omega
              intro v5 w5 hown5 hg5 hbk5
              obtain ⟨A5, c5, rfl⟩ := owns_slice hown5
              have HO5 := Lib.hid hown5
              have HG5 := Lib.hid hg5
              have HK5 := Lib.hid ((HK0.out.below HB0.out HK0.out.lt).grown hg5 hu1.out)
              have S1 := UseS.grown hHeld hg5 hu1.out hu2.out
              have HV5 := Lib.hid hbk5
              have HB5 := Lib.hid HB0.out
              obtain ⟨q11, f11⟩ := HK5.out.at 11 _ rfl
              clear hown5 hg5 hbk5
              refine hK.out _ _ ?_ (fun hHeld => ?_)
              · (try dsimp only)
                exact S1
              clear hK K
              (try simp only [Act.put, List.setIfInBounds_toArray, List.set_cons_zero, List.set_cons_succ])
              refine rp_take (i := 20) (v := ?_) rfl (by kernel_rfl) (by kernel_rfl) (by kernel_rfl) (by rfl) (by assumption) ?_ (by exact fun _ _ _ h => h) ?_
              rotate_left
              · (intro w hSw; (try dsimp only at hSw); go_simp; try (with_reducible rfl))
              (try simp only [Act.put, List.setIfInBounds_toArray, List.set_cons_zero, List.set_cons_succ])
              refine rp_take (i := 21) (v := ?_) rfl (by kernel_rfl) (by kernel_rfl) (by kernel_rfl) (by rfl) (by assumption) ?_ (by exact fun _ _ _ h => h) ?_
              rotate_left
              · (intro w hSw; (try dsimp only at hSw); go_simp; try (with_reducible rfl))
              (try simp only [Act.put, List.setIfInBounds_toArray, List.set_cons_zero, List.set_cons_succ])
              refine wpAnyH_ready (rs := [22]) (by kernel_rfl) (by simp) ?_
              refine rh_cons (i := 22) rfl (fun K hK => ?_) ?_
              · go_simp
                have S1 := UseS.set hHeld ne1 11 (by omega) (.slice A5 (us.length + 1) c5)
                refine hK.out _ _ ?_ (fun hHeld => ?_)
                · (try dsimp only)
                  exact S1
                clear hK K
                (try simp only [Act.put, List.setIfInBounds_toArray, List.set_cons_zero, List.set_cons_succ])
                refine wpAnyH_done (by kernel_rfl) ?_ _
                go_wp2
                go_end0
                have hsz5 := HB5.out.size
                have hz5 := HZ0.out
                have hne5 : ∀ g, (Value.slice A5 (us.length + 1) c5).ownBlock = some g → g ≠ sb := fun g hg => by
                  rcases HV5.out with h | h
                  · rw [hg] at h; intro e; subst e; exact hu1.out h
                  · rw [hg] at h; have := Option.some.inj h; omega
                refine ⟨rfl, _, HK5.out.set 11 _, ?_, ?_, ?_⟩
                · rw [HF.out]; exact owns_of HO5.out (fun g hg => Below.heap_setCell _ _ _ _ (hne5 g hg))
                · rcases HV5.out with h | h
                  · exact .inl h
                  · exact .inr ⟨_, h, by omega⟩
                · exact (((Grown2.of HG0.out _).trans (Grown2.of (gr_below HB5.out _) _)).trans (Grown2.of' HG5.out _)).trans (Grown2.of (gr_set _ _ _ _) _)
              exact AllReadyH.nil
            exact AllReadyH.nil
          exact AllReadyH.nil
        exact AllReadyH.nil
      exact AllReadyH.nil
    refine rh_cons (i := 13) rfl (fun K hK => ?_) ?_
    · go_simp
      refine (HD.out _ HT0.out).mono ?_
      rintro e w1 ⟨rfl, hb1⟩
      have HB0 := Lib.hid (below_next HB0.out (Nat.le_refl _) hb1)
      have S1 := UseS.next hHeld hb1
      obtain ⟨q11, f11⟩ := (HK0.out.below HB0.out HK0.out.lt).at 11 _ rfl
      clear hb1
      go_wp2_with fail
      refine hK.out _ _ ?_ (fun hHeld => ?_)
      · (try dsimp only)
        exact S1
      clear hK K
      (try simp only [Act.put, List.setIfInBounds_toArray, List.set_cons_zero, List.set_cons_succ])
      refine rp_take (i := 14) (v := ?_) rfl (by kernel_rfl) (by kernel_rfl) (by kernel_rfl) (by rfl) (by assumption) ?_ (by exact fun _ _ _ h => h) ?_
      rotate_left
      · (intro w hSw; (try dsimp only at hSw); go_simp; try (with_reducible rfl))
      (try simp only [Act.put, List.setIfInBounds_toArray, List.set_cons_zero, List.set_cons_succ])
      refine rp_take (i := 15) (v := ?_) rfl (by kernel_rfl) (by kernel_rfl) (by kernel_rfl) (by rfl) (by assumption) ?_ (by exact fun _ _ _ h => h) ?_
      rotate_left
      · (intro w hSw; (try dsimp only at hSw); go_simp; try (with_reducible rfl))
      (try simp only [Act.put, List.setIfInBounds_toArray, List.set_cons_zero, List.set_cons_succ])
      refine wpAnyH_ready (rs := [4, 16]) (by kernel_rfl) (by simp) ?_
      refine rh_cons (i := 4) rfl (fun K hK => ?_) ?_
      · go_simp
        have S1 := hHeld
        refine hK.out _ _ ?_ (fun hHeld => ?_)
        · (try dsimp only)
          exact S1
        clear hK K
        (try simp only [Act.put, List.setIfInBounds_toArray, List.set_cons_zero, List.set_cons_succ])
        refine wpAnyH_ready (rs := [16]) (by kernel_rfl) (by simp) ?_
        refine rh_cons (i := 16) rfl (fun K hK => ?_) ?_
        · go_simp
          refine (mustR_ok _ _ _ _).mono ?_
          rintro e w2 ⟨rfl, hb2⟩
          have HB0 := Lib.hid (below_next HB0.out (Nat.le_refl _) hb2)
          have S1 := UseS.next hHeld hb2
          obtain ⟨q11, f11⟩ := (HK0.out.below HB0.out HK0.out.lt).at 11 _ rfl
          clear hb2
          go_wp2_with fail
          refine hK.out _ _ ?_ (fun hHeld => ?_)
          · (try dsimp only)
            exact S1
          clear hK K
          (try simp only [Act.put, List.setIfInBounds_toArray, List.set_cons_zero, List.set_cons_succ])
          refine rp_take (i := 17) (v := ?_) rfl (by kernel_rfl) (by kernel_rfl) (by kernel_rfl) (by rfl) (by assumption) ?_ (by exact fun _ _ _ h => h) ?_
          rotate_left
          · (intro w hSw; (try dsimp only at hSw); go_simp; try (with_reducible rfl))
          (try simp only [Act.put, List.setIfInBounds_toArray, List.set_cons_zero, List.set_cons_succ])
          refine wpAnyH_ready (rs := [18]) (by kernel_rfl) (by simp) ?_
          refine rh_cons (i := 18) rfl (fun K hK => ?_) ?_
          · go_simp
            have hb3 := (Below.refl w2.heap.size w2).alloc (Nat.le_refl _) (.cells ([.int .i64 A, .bool q.neg, .string (bs q.n), .string (bs q.d), .bool true, .bool false] : List Value).toArray 58)
            have HB0 := Lib.hid (below_next HB0.out (Nat.le_refl _) hb3)
            have S1 := UseS.next hHeld hb3
            obtain ⟨q11, f11⟩ := (HK0.out.below HB0.out HK0.out.lt).at 11 _ rfl
            have HN3 := Lib.hid (Blk.new w2 [.int .i64 A, .bool q.neg, .string (bs q.n), .string (bs q.d), .bool true, .bool false] 58)
            clear hb3
            refine hK.out _ _ ?_ (fun hHeld => ?_)
            · (try dsimp only)
              exact S1
            clear hK K
            (try simp only [Act.put, List.setIfInBounds_toArray, List.set_cons_zero, List.set_cons_succ])
            refine wpAnyH_ready (rs := [19]) (by kernel_rfl) (by simp) ?_
            refine rh_cons (i := 19) rfl (fun K hK => ?_) ?_
            · skip
              refine step_append_any _ rfl (.tmp 8) (.tmp 22) 29 rfl B0 58 i0 _ 6 56 Tryz.underlying29 hi0 hz0 hz1 hz2 rfl (by omega) uv us.length (useC us) rfl (owns_of HU0.out (fun g hg => HB0.out.block g (owns_lt HU0.out hg))) (w2.heap.size + 1) (some ⟨w2.heap.size, 0, none⟩) 1 1 [.int .i64 A, .bool q.neg, .string (bs q.n), .string (bs q.d), .bool true, .bool false] rfl ?_ ?_ ?_ ?_ ?_ ?_
              · exact reads_new HN3.out
              · intro u hu; simp at hu; rcases hu with rfl | rfl | rfl | rfl | rfl | rfl <;> rfl
              · simp only [maxLen]; omega
              · omega
              · have := HB0.out.size; have := HZ0.out; omega
              intro v5 w5 hown5 hg5 hbk5
              obtain ⟨A5, c5, rfl⟩ := owns_slice hown5
              have HO5 := Lib.hid hown5
              have HG5 := Lib.hid hg5
              have HK5 := Lib.hid ((HK0.out.below HB0.out HK0.out.lt).grown hg5 hu1.out)
              have S1 := UseS.grown hHeld hg5 hu1.out hu2.out
              have HV5 := Lib.hid hbk5
              have HB5 := Lib.hid HB0.out
              obtain ⟨q11, f11⟩ := HK5.out.at 11 _ rfl
              clear hown5 hg5 hbk5
              refine hK.out _ _ ?_ (fun hHeld => ?_)
              · (try dsimp only)
                exact S1
              clear hK K
              (try simp only [Act.put, List.setIfInBounds_toArray, List.set_cons_zero, List.set_cons_succ])
              refine rp_take (i := 20) (v := ?_) rfl (by kernel_rfl) (by kernel_rfl) (by kernel_rfl) (by rfl) (by assumption) ?_ (by exact fun _ _ _ h => h) ?_
              rotate_left
              · (intro w hSw; (try dsimp only at hSw); go_simp; try (with_reducible rfl))
              (try simp only [Act.put, List.setIfInBounds_toArray, List.set_cons_zero, List.set_cons_succ])
              refine rp_take (i := 21) (v := ?_) rfl (by kernel_rfl) (by kernel_rfl) (by kernel_rfl) (by rfl) (by assumption) ?_ (by exact fun _ _ _ h => h) ?_
              rotate_left
              · (intro w hSw; (try dsimp only at hSw); go_simp; try (with_reducible rfl))
              (try simp only [Act.put, List.setIfInBounds_toArray, List.set_cons_zero, List.set_cons_succ])
              refine wpAnyH_ready (rs := [22]) (by kernel_rfl) (by simp) ?_
              refine rh_cons (i := 22) rfl (fun K hK => ?_) ?_
              · go_simp
                have S1 := UseS.set hHeld ne1 11 (by omega) (.slice A5 (us.length + 1) c5)
                refine hK.out _ _ ?_ (fun hHeld => ?_)
                · (try dsimp only)
                  exact S1
                clear hK K
                (try simp only [Act.put, List.setIfInBounds_toArray, List.set_cons_zero, List.set_cons_succ])
                refine wpAnyH_done (by kernel_rfl) ?_ _
                go_wp2
                go_end0
                have hsz5 := HB5.out.size
                have hz5 := HZ0.out
                have hne5 : ∀ g, (Value.slice A5 (us.length + 1) c5).ownBlock = some g → g ≠ sb := fun g hg => by
                  rcases HV5.out with h | h
                  · rw [hg] at h; intro e; subst e; exact hu1.out h
                  · rw [hg] at h; have := Option.some.inj h; omega
                refine ⟨rfl, _, HK5.out.set 11 _, ?_, ?_, ?_⟩
                · rw [HF.out]; exact owns_of HO5.out (fun g hg => Below.heap_setCell _ _ _ _ (hne5 g hg))
                · rcases HV5.out with h | h
                  · exact .inl h
                  · exact .inr ⟨_, h, by omega⟩
                · exact (((Grown2.of HG0.out _).trans (Grown2.of (gr_below HB5.out _) _)).trans (Grown2.of' HG5.out _)).trans (Grown2.of (gr_set _ _ _ _) _)
              exact AllReadyH.nil
            exact AllReadyH.nil
          exact AllReadyH.nil
        exact AllReadyH.nil
      refine rh_cons (i := 16) rfl (fun K hK => ?_) ?_
      · go_simp
        refine (mustR_ok _ _ _ _).mono ?_
        rintro e w2 ⟨rfl, hb2⟩
        have HB0 := Lib.hid (below_next HB0.out (Nat.le_refl _) hb2)
        have S1 := UseS.next hHeld hb2
        obtain ⟨q11, f11⟩ := (HK0.out.below HB0.out HK0.out.lt).at 11 _ rfl
        clear hb2
        go_wp2_with fail
        refine hK.out _ _ ?_ (fun hHeld => ?_)
        · (try dsimp only)
          exact S1
        clear hK K
        (try simp only [Act.put, List.setIfInBounds_toArray, List.set_cons_zero, List.set_cons_succ])
        refine rp_take (i := 17) (v := ?_) rfl (by kernel_rfl) (by kernel_rfl) (by kernel_rfl) (by rfl) (by assumption) ?_ (by exact fun _ _ _ h => h) ?_
        rotate_left
        · (intro w hSw; (try dsimp only at hSw); go_simp; try (with_reducible rfl))
        (try simp only [Act.put, List.setIfInBounds_toArray, List.set_cons_zero, List.set_cons_succ])
        refine wpAnyH_ready (rs := [4, 18]) (by kernel_rfl) (by simp) ?_
        refine rh_cons (i := 4) rfl (fun K hK => ?_) ?_
        · go_simp
          have S1 := hHeld
          refine hK.out _ _ ?_ (fun hHeld => ?_)
          · (try dsimp only)
            exact S1
          clear hK K
          (try simp only [Act.put, List.setIfInBounds_toArray, List.set_cons_zero, List.set_cons_succ])
          refine wpAnyH_ready (rs := [18]) (by kernel_rfl) (by simp) ?_
          refine rh_cons (i := 18) rfl (fun K hK => ?_) ?_
          · go_simp
            have hb3 := (Below.refl w2.heap.size w2).alloc (Nat.le_refl _) (.cells ([.int .i64 A, .bool q.neg, .string (bs q.n), .string (bs q.d), .bool true, .bool false] : List Value).toArray 58)
            have HB0 := Lib.hid (below_next HB0.out (Nat.le_refl _) hb3)
            have S1 := UseS.next hHeld hb3
            obtain ⟨q11, f11⟩ := (HK0.out.below HB0.out HK0.out.lt).at 11 _ rfl
            have HN3 := Lib.hid (Blk.new w2 [.int .i64 A, .bool q.neg, .string (bs q.n), .string (bs q.d), .bool true, .bool false] 58)
            clear hb3
            refine hK.out _ _ ?_ (fun hHeld => ?_)
            · (try dsimp only)
              exact S1
            clear hK K
            (try simp only [Act.put, List.setIfInBounds_toArray, List.set_cons_zero, List.set_cons_succ])
            refine wpAnyH_ready (rs := [19]) (by kernel_rfl) (by simp) ?_
            refine rh_cons (i := 19) rfl (fun K hK => ?_) ?_
            · skip
              refine step_append_any _ rfl (.tmp 8) (.tmp 22) 29 rfl B0 58 i0 _ 6 56 Tryz.underlying29 hi0 hz0 hz1 hz2 rfl (by omega) uv us.length (useC us) rfl (owns_of HU0.out (fun g hg => HB0.out.block g (owns_lt HU0.out hg))) (w2.heap.size + 1) (some ⟨w2.heap.size, 0, none⟩) 1 1 [.int .i64 A, .bool q.neg, .string (bs q.n), .string (bs q.d), .bool true, .bool false] rfl ?_ ?_ ?_ ?_ ?_ ?_
              · exact reads_new HN3.out
              · intro u hu; simp at hu; rcases hu with rfl | rfl | rfl | rfl | rfl | rfl <;> rfl
              · simp only [maxLen]; omega
              · omega
              · have := HB0.out.size; have := HZ0.out; omega
              intro v5 w5 hown5 hg5 hbk5
              obtain ⟨A5, c5, rfl⟩ := owns_slice hown5
              have HO5 := Lib.hid hown5
              have HG5 := Lib.hid hg5
              have HK5 := Lib.hid ((HK0.out.below HB0.out HK0.out.lt).grown hg5 hu1.out)
              have S1 := UseS.grown hHeld hg5 hu1.out hu2.out
              have HV5 := Lib.hid hbk5
              have HB5 := Lib.hid HB0.out
              obtain ⟨q11, f11⟩ := HK5.out.at 11 _ rfl
              clear hown5 hg5 hbk5
              refine hK.out _ _ ?_ (fun hHeld => ?_)
              · (try dsimp only)
                exact S1
              clear hK K
              (try simp only [Act.put, List.setIfInBounds_toArray, List.set_cons_zero, List.set_cons_succ])
              refine rp_take (i := 20) (v := ?_) rfl (by kernel_rfl) (by kernel_rfl) (by kernel_rfl) (by rfl) (by assumption) ?_ (by exact fun _ _ _ h => h) ?_
              rotate_left
              · (intro w hSw; (try dsimp only at hSw); go_simp; try (with_reducible rfl))
              (try simp only [Act.put, List.setIfInBounds_toArray, List.set_cons_zero, List.set_cons_succ])
              refine rp_take (i := 21) (v := ?_) rfl (by kernel_rfl) (by kernel_rfl) (by kernel_rfl) (by rfl) (by assumption) ?_ (by exact fun _ _ _ h => h) ?_
              rotate_left
              · (intro w hSw; (try dsimp only at hSw); go_simp; try (with_reducible rfl))
              (try simp only [Act.put, List.setIfInBounds_toArray, List.set_cons_zero, List.set_cons_succ])
              refine wpAnyH_ready (rs := [22]) (by kernel_rfl) (by simp) ?_
              refine rh_cons (i := 22) rfl (fun K hK => ?_) ?_
              · go_simp
                have S1 := UseS.set hHeld ne1 11 (by omega) (.slice A5 (us.length + 1) c5)
                refine hK.out _ _ ?_ (fun hHeld => ?_)
                · (try dsimp only)
                  exact S1
                clear hK K
                (try simp only [Act.put, List.setIfInBounds_toArray, List.set_cons_zero, List.set_cons_succ])
                refine wpAnyH_done (by kernel_rfl) ?_ _
                go_wp2
                go_end0
                have hsz5 := HB5.out.size
                have hz5 := HZ0.out
                have hne5 : ∀ g, (Value.slice A5 (us.length + 1) c5).ownBlock = some g → g ≠ sb := fun g hg => by
                  rcases HV5.out with h | h
                  · rw [hg] at h; intro e; subst e; exact hu1.out h
                  · rw [hg] at h; have := Option.some.inj h; omega
                refine ⟨rfl, _, HK5.out.set 11 _, ?_, ?_, ?_⟩
                · rw [HF.out]; exact owns_of HO5.out (fun g hg => Below.heap_setCell _ _ _ _ (hne5 g hg))
                · rcases HV5.out with h | h
                  · exact .inl h
                  · exact .inr ⟨_, h, by omega⟩
                · exact (((Grown2.of HG0.out _).trans (Grown2.of (gr_below HB5.out _) _)).trans (Grown2.of' HG5.out _)).trans (Grown2.of (gr_set _ _ _ _) _)
              exact AllReadyH.nil
            exact AllReadyH.nil
          exact AllReadyH.nil
        refine rh_cons (i := 18) rfl (fun K hK => ?_) ?_
        · go_simp
          have hb3 := (Below.refl w2.heap.size w2).alloc (Nat.le_refl _) (.cells ([.int .i64 A, .bool q.neg, .string (bs q.n), .string (bs q.d), .bool true, .bool false] : List Value).toArray 58)
          have HB0 := Lib.hid (below_next HB0.out (Nat.le_refl _) hb3)
          have S1 := UseS.next hHeld hb3
          obtain ⟨q11, f11⟩ := (HK0.out.below HB0.out HK0.out.lt).at 11 _ rfl
          have HN3 := Lib.hid (Blk.new w2 [.int .i64 A, .bool q.neg, .string (bs q.n), .string (bs q.d), .bool true, .bool false] 58)
          clear hb3
          refine hK.out _ _ ?_ (fun hHeld => ?_)
          · (try dsimp only)
            exact S1
          clear hK K
          (try simp only [Act.put, List.setIfInBounds_toArray, List.set_cons_zero, List.set_cons_succ])
          refine wpAnyH_ready (rs := [4]) (by kernel_rfl) (by simp) ?_
          refine rh_cons (i := 4) rfl (fun K hK => ?_) ?_
          · go_simp
            have S1 := hHeld
            refine hK.out _ _ ?_ (fun hHeld => ?_)
            · (try dsimp only)
              exact S1
            clear hK K
            (try simp only [Act.put, List.setIfInBounds_toArray, List.set_cons_zero, List.set_cons_succ])
            refine wpAnyH_ready (rs := [19]) (by kernel_rfl) (by simp) ?_
            refine rh_cons (i := 19) rfl (fun K hK => ?_) ?_
            · skip
              refine step_append_any _ rfl (.tmp 8) (.tmp 22) 29 rfl B0 58 i0 _ 6 56 Tryz.underlying29 hi0 hz0 hz1 hz2 rfl (by omega) uv us.length (useC us) rfl (owns_of HU0.out (fun g hg => HB0.out.block g (owns_lt HU0.out hg))) (w2.heap.size + 1) (some ⟨w2.heap.size, 0, none⟩) 1 1 [.int .i64 A, .bool q.neg, .string (bs q.n), .string (bs q.d), .bool true, .bool false] rfl ?_ ?_ ?_ ?_ ?_ ?_
              · exact reads_new HN3.out
              · intro u hu; simp at hu; rcases hu with rfl | rfl | rfl | rfl | rfl | rfl <;> rfl
              · simp only [maxLen]; omega
              · omega
              · have := HB0.out.size; have := HZ0.out; omega
              intro v5 w5 hown5 hg5 hbk5
              obtain ⟨A5, c5, rfl⟩ := owns_slice hown5
              have HO5 := Lib.hid hown5
              have HG5 := Lib.hid hg5
              have HK5 := Lib.hid ((HK0.out.below HB0.out HK0.out.lt).grown hg5 hu1.out)
              have S1 := UseS.grown hHeld hg5 hu1.out hu2.out
              have HV5 := Lib.hid hbk5
              have HB5 := Lib.hid HB0.out
              obtain ⟨q11, f11⟩ := HK5.out.at 11 _ rfl
              clear hown5 hg5 hbk5
              refine hK.out _ _ ?_ (fun hHeld => ?_)
              · (try dsimp only)
                exact S1
              clear hK K
              (try simp only [Act.put, List.setIfInBounds_toArray, List.set_cons_zero, List.set_cons_succ])
              refine rp_take (i := 20) (v := ?_) rfl (by kernel_rfl) (by kernel_rfl) (by kernel_rfl) (by rfl) (by assumption) ?_ (by exact fun _ _ _ h => h) ?_
              rotate_left
              · (intro w hSw; (try dsimp only at hSw); go_simp; try (with_reducible rfl))
              (try simp only [Act.put, List.setIfInBounds_toArray, List.set_cons_zero, List.set_cons_succ])
              refine rp_take (i := 21) (v := ?_) rfl (by kernel_rfl) (by kernel_rfl) (by kernel_rfl) (by rfl) (by assumption) ?_ (by exact fun _ _ _ h => h) ?_
              rotate_left
              · (intro w hSw; (try dsimp only at hSw); go_simp; try (with_reducible rfl))
              (try simp only [Act.put, List.setIfInBounds_toArray, List.set_cons_zero, List.set_cons_succ])
              refine wpAnyH_ready (rs := [22]) (by kernel_rfl) (by simp) ?_
              refine rh_cons (i := 22) rfl (fun K hK => ?_) ?_
              · go_simp
                have S1 := UseS.set hHeld ne1 11 (by omega) (.slice A5 (us.length + 1) c5)
                refine hK.out _ _ ?_ (fun hHeld => ?_)
                · (try dsimp only)
                  exact S1
                clear hK K
                (try simp only [Act.put, List.setIfInBounds_toArray, List.set_cons_zero, List.set_cons_succ])
                refine wpAnyH_done (by kernel_rfl) ?_ _
                go_wp2
                go_end0
                have hsz5 := HB5.out.size
                have hz5 := HZ0.out
                have hne5 : ∀ g, (Value.slice A5 (us.length + 1) c5).ownBlock = some g → g ≠ sb := fun g hg => by
                  rcases HV5.out with h | h
                  · rw [hg] at h; intro e; subst e; exact hu1.out h
                  · rw [hg] at h; have := Option.some.inj h; omega
                refine ⟨rfl, _, HK5.out.set 11 _, ?_, ?_, ?_⟩
                · rw [HF.out]; exact owns_of HO5.out (fun g hg => Below.heap_setCell _ _ _ _ (hne5 g hg))
                · rcases HV5.out with h | h
                  · exact .inl h
                  · exact .inr ⟨_, h, by omega⟩
                · exact (((Grown2.of HG0.out _).trans (Grown2.of (gr_below HB5.out _) _)).trans (Grown2.of' HG5.out _)).trans (Grown2.of (gr_set _ _ _ _) _)
              exact AllReadyH.nil
            exact AllReadyH.nil
          exact AllReadyH.nil
        exact AllReadyH.nil
      exact AllReadyH.nil
    exact AllReadyH.nil
    -- </giveok>
end Go.Proofs.YtoolanjbmbcaiaaGreatDoor
