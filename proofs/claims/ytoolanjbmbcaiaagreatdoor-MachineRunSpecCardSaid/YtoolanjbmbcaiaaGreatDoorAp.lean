/- append onto a slice of ints that the call itself has made. -/
import Derived.Test.YtoolanjbmbcaiaaGreatDoorGd
namespace Go.Proofs.YtoolanjbmbcaiaaGreatDoor
open Go.RowKit Bf

theorem i64_info : (Tryz.prog.info? 3).map (fun i => (i.zero, i.size, i.bytes)) = some (some (.int .i64 0), 1, 8) := by kernel_rfl
def intC (c : List Int) : List Value := c.map fun z => .int .i64 z
theorem intC_length (c : List Int) : (intC c).length = c.length := by simp [intC]
theorem intC_one (c : List Int) : ∀ u ∈ intC c, u.oneCell' = true := by
  intro u hu; simp [intC] at hu; obtain ⟨_, _, rfl⟩ := hu; rfl

theorem IntsV.reads {w : World} {A : Option Addr} {c : List Int} {cap : Nat} (h : IntsV w (.slice A c.length cap) c) : Reads w w.heap.size 1 A c.length (intC c) := by
  obtain ⟨A', cap', e, hcap, h⟩ := h
  cases e
  refine ⟨by simp [intC], fun hn => ?_⟩
  obtain ⟨b, off, rfl, hb, _⟩ := h 0 c[0] (List.getElem?_eq_getElem hn)
  refine ⟨_, rfl, hb, fun j u hu => ?_⟩
  simp only [intC, List.getElem?_map, Option.map_eq_some_iff] at hu
  obtain ⟨z, hz, rfl⟩ := hu
  obtain ⟨b', off', e, _, hc⟩ := h j z hz
  cases e
  rw [← hc]; congr 1
  unfold Addr.add; split <;> simp_all

theorem IntsV.of_own {w : World} {B : Nat} {v : Value} {c : List Int} (h : w.ownsRow B 3 1 v c.length (intC c)) : IntsV w v c := by
  rcases h.2 with ⟨rfl, h0⟩ | ⟨g, cap, cur, rfl, h1, h2, h3, _, h5, h6⟩
  · obtain rfl : c = [] := List.length_eq_zero_iff.1 h0
    exact ⟨_, _, rfl, Nat.le_refl _, fun i z hz => by simp at hz⟩
  · refine ⟨_, _, rfl, h3, fun i z hz => ⟨g, 0, rfl, (Array.getElem?_eq_some_iff.1 h2).1, ?_⟩⟩
    have hi : i < c.length := (List.getElem?_eq_some_iff.1 hz).1
    have : (cur.toList.take (c.length * 1))[i]? = some (.int .i64 z) := by rw [h6]; simp [intC, hz]
    rw [List.getElem?_take, if_pos (by omega)] at this
    simp at this
    rw [Nat.zero_add]
    exact (cellAt3 h2 i _ this).1

theorem app_below {W w1 : World} {o : Obj} (hg : (W.alloc o).grownBy w1 (some W.heap.size)) : Below W.heap.size W w1 :=
  ((Below.refl W.heap.size W).alloc (Nat.le_refl _) o).grown hg (by simp) (by simp)
theorem app_below2 {W w1 w2 : World} {o : Obj} {v : Value} (hb : Below W.heap.size W w1) (hg : (w1.alloc o).grownBy w2 v.ownBlock) (hv : ∀ g, v.ownBlock = some g → W.heap.size ≤ g) : Below W.heap.size W w2 :=
  (hb.alloc hb.size o).grown hg (by have := hb.size; simp; omega) hv
theorem own_base {w : World} {B n size : Nat} {e : TypeId} {v : Value} {xs : List Value} (h : w.ownsRow B e size v n xs) : ∀ g, v.ownBlock = some g → B ≤ g := by
  intro g hg
  rcases h.2 with ⟨rfl, _⟩ | ⟨g', cap, cur, rfl, h1, _⟩
  · simp [Value.ownBlock] at hg
  · simp [Value.ownBlock] at hg; omega
theorem own_empty (W : World) (t : TypeId) : (W.alloc (.cells #[] t)).ownsRow W.heap.size t 1 (.slice (some ⟨W.heap.size, 0, none⟩) 0 0) 0 (intC []) :=
  ⟨rfl, .inr ⟨_, _, #[], rfl, Nat.le_refl _, heap_alloc_new W _, Nat.le_refl _, by simp [maxLen], rfl, rfl⟩⟩
theorem own_alloc {w : World} {B n size : Nat} {e : TypeId} {v : Value} {xs : List Value} (h : w.ownsRow B e size v n xs) (o : Obj) : (w.alloc o).ownsRow B e size v n xs :=
  owns_of h fun _g hg => Below.heap_alloc _ _ _ (owns_lt h hg)
theorem reads_one (w : World) (z : Int) (t : TypeId) : Reads (w.alloc (.cells #[.int .i64 z] t)) (w.heap.size + 1) 1 (some ⟨w.heap.size, 0, none⟩) 1 (intC [z]) := by
  refine ⟨rfl, fun _ => ⟨_, rfl, Nat.lt_succ_self _, fun j u hu => ?_⟩⟩
  cases j with
  | zero =>
    simp [intC] at hu
    subst hu
    simp [Addr.add, go_sem]
  | succ j => simp [intC] at hu
end Go.Proofs.YtoolanjbmbcaiaaGreatDoor
