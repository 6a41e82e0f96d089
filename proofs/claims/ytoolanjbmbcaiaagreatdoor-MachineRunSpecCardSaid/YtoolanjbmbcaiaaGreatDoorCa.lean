/- The arguments of the Machine laws, opened. -/
import Derived.Test.YtoolanjbmbcaiaaGreatDoorGf
import Derived.Test.YtoolanjbmbcaiaaGreatDoorRows
import Derived.Deep.Slices
import Derived.Lib.SmallJoins
import Derived.ProofKit
import Derived.LaidMore
import Derived.OpenShut
import Derived.Stop.Joined
namespace Go.Proofs.YtoolanjbmbcaiaaGreatDoor
open Go.ChangeShapes Go.WideShapes Go.RowKit Bf

theorem len3 {α : Type} {l : List α} (h : l.length = 3) : ∃ a b c, l = [a, b, c] := by
  match l, h with
  | [a, b, c], _ => exact ⟨a, b, c, rfl⟩
theorem len4 {α : Type} {l : List α} (h : l.length = 4) : ∃ a b c d, l = [a, b, c, d] := by
  match l, h with
  | [a, b, c, d], _ => exact ⟨a, b, c, d, rfl⟩
theorem len6 {α : Type} {l : List α} (h : l.length = 6) : ∃ a b c d e f, l = [a, b, c, d, e, f] := by
  match l, h with
  | [a, b, c, d, e, f], _ => exact ⟨a, b, c, d, e, f, rfl⟩

section
variable {H : Type} {enc : TypeId × Value → H} {w : World} {base : Nat} {spare : Nat → Bool} {held : Bool}

theorem cells_inst : Tryz.prog.cellsOf 40 = 6 := by kernel_rfl
theorem cells_ratio : Tryz.prog.cellsOf 25 = 3 := by kernel_rfl
theorem cells_int : Tryz.prog.cellsOf 3 = 1 := by kernel_rfl
theorem cells_bool : Tryz.prog.cellsOf 4 = 1 := by kernel_rfl
theorem cells_string : Tryz.prog.cellsOf 9 = 1 := by kernel_rfl

/-- A ratio's three cells. -/
theorem open_ratio {fuel : Nat} {cs : List Value} {x : DataW H × List MemPlace} (h : DataW.trod enc Tryz.prog w base spare held fuel 25 cs = some x) : ∃ (neg : Bool) (n d : ByteArray), cs = [.bool neg, .string n, .string d] := by
  obtain ⟨xs, m, _, _, hlen, hx, hf⟩ := DataW.trod_struct Tryz.underlying25 h
  rw [cells_ratio] at hlen
  obtain ⟨a, b, c, rfl⟩ := len3 hlen
  obtain ⟨x0, x1, x2, rfl⟩ := len3 hx
  clear hlen hx h
  obtain ⟨neg, e0, _⟩ := DataW.trod_bool Tryz.underlying4 (show DataW.trod enc Tryz.prog w base spare held m 4 [a] = some x0 from by simpa [cells_bool] using hf 0 _ rfl)
  obtain ⟨n, e1, _⟩ := DataW.trod_string Tryz.underlying9 (show DataW.trod enc Tryz.prog w base spare held m 9 [b] = some x1 from by simpa [cells_string] using hf 1 _ rfl)
  obtain ⟨d, e2, _⟩ := DataW.trod_string Tryz.underlying9 (show DataW.trod enc Tryz.prog w base spare held m 9 [c] = some x2 from by simpa [cells_string] using hf 2 _ rfl)
  simp at e0 e1 e2
  subst e0 e1 e2
  exact ⟨_, _, _, rfl⟩

/-- An instruction's six cells. -/
theorem open_inst {fuel : Nat} {cs : List Value} {x : DataW H × List MemPlace} (h : DataW.trod enc Tryz.prog w base spare held fuel 40 cs = some x) : ∃ i : In, cs = inC i := by
  obtain ⟨xs, m, _, _, hlen, hx, hf⟩ := DataW.trod_struct Tryz.underlying40 h
  rw [cells_inst] at hlen
  obtain ⟨a, b, c, d, e, f, rfl⟩ := len6 hlen
  obtain ⟨x0, x1, x2, x3, rfl⟩ := len4 hx
  clear hlen hx h
  obtain ⟨o, e0, _⟩ := DataW.trod_int Tryz.underlying3 (show DataW.trod enc Tryz.prog w base spare held m 3 [a] = some x0 from by simpa [cells_int] using hf 0 _ rfl)
  obtain ⟨A, e1, _⟩ := DataW.trod_int Tryz.underlying3 (show DataW.trod enc Tryz.prog w base spare held m 3 [b] = some x1 from by simpa [cells_int] using hf 1 _ rfl)
  obtain ⟨B, e2, _⟩ := DataW.trod_int Tryz.underlying3 (show DataW.trod enc Tryz.prog w base spare held m 3 [c] = some x2 from by simpa [cells_int] using hf 2 _ rfl)
  obtain ⟨neg, n, d', e3⟩ := open_ratio (show DataW.trod enc Tryz.prog w base spare held m 25 [d, e, f] = some x3 from by simpa [cells_ratio] using hf 3 _ rfl)
  simp at e0 e1 e2 e3
  obtain ⟨e3, e4, e5⟩ := e3
  subst e0 e1 e2 e3 e4 e5
  exact ⟨⟨o, A, B, neg, n, d'⟩, rfl⟩

theorem choose_list {α : Type} (p : Nat → α → Prop) : ∀ n : Nat, (∀ i, i < n → ∃ a, p i a) → ∃ l : List α, l.length = n ∧ ∀ (i : Nat) (a : α), l[i]? = some a → p i a
  | 0, _ => ⟨[], rfl, fun i a h => by simp at h⟩
  | n + 1, h => by
    obtain ⟨l, hl, hp⟩ := choose_list p n (fun i hi => h i (by omega))
    obtain ⟨a, ha⟩ := h n (by omega)
    refine ⟨l ++ [a], by simp [hl], fun i b hb => ?_⟩
    rcases Nat.lt_or_ge i n with hi | hi
    · rw [List.getElem?_append_left (by omega)] at hb; exact hp i b hb
    · rw [List.getElem?_append_right (by omega)] at hb
      have : i - l.length = 0 := by have := (List.getElem?_eq_some_iff.1 hb).1; simp at this; omega
      rw [this] at hb
      simp at hb
      subst hb
      obtain rfl : i = n := by omega
      exact ha

set_option maxRecDepth 100000 in
/-- A program as an argument. -/
theorem open_code {r : Reach} {b0 : Nat} {v : Value} {d : DataW H} {p : List MemPlace} (hv : Value.okWide Tryz.prog w r b0 22 v) (h : DataW.Trod enc Tryz.prog w base spare held 22 v d p) :
    ∃ l : List In, CodeV w v l ∧ l.length ≤ 9223372036854775807 := by
  obtain ⟨A, len, cap, rfl⟩ := okWide_slice Tryz.underlying22 hv
  obtain ⟨fuel, hf⟩ := h
  rcases Deep.open_slice Tryz.underlying22 hf with ⟨hc, _⟩ | ⟨a, len', cap', m, n, D, Pl, hc, hb, hl, hm, hmm, _, hi⟩
  · simp [Value.cells] at hc
    obtain ⟨rfl, rfl, rfl⟩ := hc
    exact ⟨[], ⟨_, _, rfl, .inl rfl⟩, Nat.zero_le _⟩
  · simp [Value.cells] at hc
    obtain ⟨rfl, rfl, rfl⟩ := hc
    have hlm : len ≤ m := by rw [hmm]; split <;> omega
    rw [cells_inst] at hi
    obtain ⟨l, hll, hp⟩ := choose_list (fun i (x : In) => w.cells? base (a.add (i * 6)) 6 = some (inC x)) len (fun i hi' => by
      obtain ⟨cs, h1, h2⟩ := hi i (by omega)
      obtain ⟨x, rfl⟩ := open_inst h2
      exact ⟨x, h1⟩)
    refine ⟨l, ?_, by rw [hll]; exact Nat.le_trans hl hm⟩
    rcases Nat.eq_zero_or_pos len with h0 | h0
    · obtain rfl : l = [] := List.length_eq_zero_iff.1 (hll.trans h0)
      exact ⟨_, _, by rw [← hll], .inl rfl⟩
    · obtain ⟨x0, hx0⟩ : ∃ x, l[0]? = some x := ⟨_, List.getElem?_eq_getElem (by omega)⟩
      have hc0 := (World.cells?_some (hp 0 x0 hx0)).2.2 0 (by omega)
      have hsp : a.spot = none := World.cell?_spot (v := .int .i64 x0.op) (by simpa [Addr.add, inC] using hc0)
      obtain ⟨b, off, sp⟩ := a
      simp only at hsp
      subst hsp
      have hcell : ∀ (i : Nat) (x : In), l[i]? = some x → ∀ j, j < 6 → w.cell? ⟨b, off + 6 * i + j, none⟩ = (inC x)[j]? := fun i x hx j hj => by
        have := (World.cells?_some (hp i x hx)).2.2 j hj
        rw [← this]
        congr 1
        rcases i with _ | i
        · rcases j with _ | j <;> simp [Addr.add]
        · rcases j with _ | j <;> simp [Addr.add] <;> omega
      refine ⟨_, _, by rw [← hll], .inr ⟨b, off, rfl, ?_, fun i x hx => ?_⟩⟩
      · have := hcell 0 x0 hx0 0 (by omega)
        have h2 : w.cell? ⟨b, off, none⟩ = some (.int .i64 x0.op) := by simpa [inC] using this
        obtain ⟨o, ho, _⟩ := cells_of_cell h2
        exact (Array.getElem?_eq_some_iff.1 ho).1
      · have h := hcell i x hx
        exact ⟨h 0 (by omega), h 1 (by omega), h 2 (by omega), h 3 (by omega), h 4 (by omega), h 5 (by omega)⟩
end
end Go.Proofs.YtoolanjbmbcaiaaGreatDoor
