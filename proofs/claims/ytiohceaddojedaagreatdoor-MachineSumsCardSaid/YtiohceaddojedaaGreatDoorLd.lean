/- Plain law of a run: the uses for a sum of amounts are the sums of the uses. -/
import Derived.Test.YtiohceaddojedaaGreatDoorGd
namespace Go.Proofs.YtiohceaddojedaaGreatDoor
open Bf

theorem lowR_val (neg : Bool) (n d : Nat) : (lowR neg n d).n * d = n * (lowR neg n d).d := by
  show n / Nat.gcd n d * d = n * (d / Nat.gcd n d)
  obtain ⟨x, hx⟩ := Nat.gcd_dvd_left n d
  obtain ⟨y, hy⟩ := Nat.gcd_dvd_right n d
  generalize Nat.gcd n d = g at hx hy
  subst hx hy
  rcases Nat.eq_zero_or_pos g with h | h
  · subst h; simp
  · rw [Nat.mul_div_cancel_left _ h, Nat.mul_div_cancel_left _ h]; grind

/-- Lowest terms are unique. -/
theorem lowR_unique {n d a b : Nat} (hd : 0 < d) (_hb : 0 < b) (hg : Nat.gcd a b = 1) (h : a * d = n * b) : lowR false n d = ⟨false, a, b⟩ := by
  have hgp : 0 < Nat.gcd n d := Nat.gcd_pos_of_pos_right n hd
  have hc : Nat.gcd (n / Nat.gcd n d) (d / Nat.gcd n d) = 1 := by rw [Nat.gcd_div (Nat.gcd_dvd_left n d) (Nat.gcd_dvd_right n d), Nat.div_self hgp]
  obtain ⟨x, hx⟩ := Nat.gcd_dvd_left n d
  obtain ⟨y, hy⟩ := Nat.gcd_dvd_right n d
  unfold lowR
  generalize Nat.gcd n d = g at *
  subst hx hy
  rw [Nat.mul_div_cancel_left _ hgp, Nat.mul_div_cancel_left _ hgp] at hc ⊢
  have e : a * y = x * b := Nat.eq_of_mul_eq_mul_left hgp (by grind)
  have h1 : x ∣ a := Nat.Coprime.dvd_of_dvd_mul_right (k := x) (n := y) (m := a) hc ⟨b, e⟩
  have h2 : a ∣ x := Nat.Coprime.dvd_of_dvd_mul_right (k := a) (n := b) (m := x) hg ⟨y, e.symm⟩
  have h3 : y ∣ b := Nat.Coprime.dvd_of_dvd_mul_left (k := y) (m := x) (n := b) ((Nat.gcd_comm y x).trans hc) ⟨a, by rw [← e]; exact Nat.mul_comm _ _⟩
  have h4 : b ∣ y := Nat.Coprime.dvd_of_dvd_mul_left (k := b) (m := a) (n := y) ((Nat.gcd_comm b a).trans hg) ⟨x, by rw [e]; exact Nat.mul_comm _ _⟩
  rw [Nat.dvd_antisymm h1 h2, Nat.dvd_antisymm h3 h4]
  simp

/-- r is the sum of p and q. -/
def Sum3 (p q r : Rt) : Prop := (p.neg = false ∧ q.neg = false ∧ r.neg = false) ∧ (0 < p.d ∧ 0 < q.d ∧ 0 < r.d) ∧ Nat.gcd r.n r.d = 1 ∧ r.n * (p.d * q.d) = (p.n * q.d + q.n * p.d) * r.d

/-- The sum of two numbers that are not negative, in lowest terms. -/
def addR (p q : Rt) : Rt := lowR false (p.n * q.d + q.n * p.d) (p.d * q.d)

theorem Sum3.eq {p q r : Rt} (h : Sum3 p q r) : addR p q = r := by
  obtain ⟨⟨_, _, hn⟩, ⟨h1, h2, h3⟩, hg, he⟩ := h
  unfold addR
  rw [lowR_unique (Nat.mul_pos h1 h2) h3 hg he]
  obtain ⟨rn, a, b⟩ := r
  simp only at hn
  rw [hn]

theorem Sum3.of {p q : Rt} (h1 : p.neg = false) (h2 : q.neg = false) (h3 : 0 < p.d) (h4 : 0 < q.d) : Sum3 p q (addR p q) := by
  have hd : 0 < p.d * q.d := Nat.mul_pos h3 h4
  have hg : 0 < Nat.gcd (p.n * q.d + q.n * p.d) (p.d * q.d) := Nat.gcd_pos_of_pos_right _ hd
  refine ⟨⟨h1, h2, by simp [addR, lowR]⟩, ⟨h3, h4, Nat.div_pos (Nat.le_of_dvd hd (Nat.gcd_dvd_right _ _)) hg⟩, ?_, lowR_val _ _ _⟩
  show Nat.gcd (_ / _) (_ / _) = 1
  rw [Nat.gcd_div (Nat.gcd_dvd_left _ _) (Nat.gcd_dvd_right _ _), Nat.div_self hg]

theorem mulR_some {a b c : Rt} (h : mulR a b = some c) : c = lowR (a.neg != b.neg) (a.n * b.n) (a.d * b.d) := by
  unfold mulR at h
  split at h
  · exact (Option.some.inj h).symm
  · cases h
theorem mulR_comm (a b : Rt) : mulR a b = mulR b a := by
  unfold mulR
  rw [Nat.mul_comm a.n b.n, Nat.mul_comm a.d b.d, bne_comm]

theorem lowR_pos {neg : Bool} {n d : Nat} (h0 : 0 < d) : 0 < (lowR neg n d).d ∧ Nat.gcd (lowR neg n d).n (lowR neg n d).d = 1 ∧ (lowR neg n d).n ≤ n ∧ (lowR neg n d).d ≤ d := by
  have hg : 0 < Nat.gcd n d := Nat.gcd_pos_of_pos_right n h0
  refine ⟨Nat.div_pos (Nat.le_of_dvd h0 (Nat.gcd_dvd_right n d)) hg, ?_, Nat.div_le_self _ _, Nat.div_le_self _ _⟩
  show Nat.gcd (_ / _) (_ / _) = 1
  rw [Nat.gcd_div (Nat.gcd_dvd_left n d) (Nat.gcd_dvd_right n d), Nat.div_self hg]

theorem Sum3.mul {p q r m p' q' r' : Rt} (h : Sum3 p q r) (hm : m.neg = false) (hd : 0 < m.d) (hp : mulR p m = some p') (hq : mulR q m = some q') (hr : mulR r m = some r') : Sum3 p' q' r' := by
  obtain ⟨⟨n1, n2, n3⟩, ⟨h1, h2, h3⟩, hg, he⟩ := h
  have ep := mulR_some hp
  have eq := mulR_some hq
  have er := mulR_some hr
  clear hp hq hr
  rw [n1, hm] at ep
  rw [n2, hm] at eq
  rw [n3, hm] at er
  simp only [bne_self_eq_false] at ep eq er
  have vp := lowR_val false (p.n * m.n) (p.d * m.d)
  have vq := lowR_val false (q.n * m.n) (q.d * m.d)
  have vr := lowR_val false (r.n * m.n) (r.d * m.d)
  have xp := lowR_pos (neg := false) (n := p.n * m.n) (Nat.mul_pos h1 hd)
  have xq := lowR_pos (neg := false) (n := q.n * m.n) (Nat.mul_pos h2 hd)
  have xr := lowR_pos (neg := false) (n := r.n * m.n) (Nat.mul_pos h3 hd)
  rw [← ep] at vp xp
  rw [← eq] at vq xq
  rw [← er] at vr xr
  refine ⟨⟨by rw [ep]; simp [lowR], by rw [eq]; simp [lowR], by rw [er]; simp [lowR]⟩, ⟨xp.1, xq.1, xr.1⟩, xr.2.1, ?_⟩
  have hK : 0 < r.d * m.d * (p.d * q.d) * m.d := Nat.mul_pos (Nat.mul_pos (Nat.mul_pos h3 hd) (Nat.mul_pos h1 h2)) hd
  refine Nat.eq_of_mul_eq_mul_right hK ?_
  clear ep eq er xp xq xr hg n1 n2 n3 hm hK h1 h2 h3 hd
  grind

/-- What the least whole number that is not less is. -/
theorem ceilR_spec {a : Rt} {k : Nat} (ha : 0 < a.d) (h : ceilR a = some k) : a.n ≤ k * a.d ∧ ∀ j, a.n ≤ j * a.d → k ≤ j := by
  have hdm := Nat.div_add_mod a.n a.d
  have hlt := Nat.mod_lt a.n ha
  unfold ceilR at h
  split at h
  · split at h
    · obtain rfl := Option.some.inj h
      rename_i hm
      rw [hm, Nat.add_zero, Nat.mul_comm] at hdm
      refine ⟨by omega, fun j hj => ?_⟩
      exact Nat.div_le_of_le_mul (by rw [Nat.mul_comm]; exact hj)
    · rename_i hm
      split at h
      · obtain rfl := Option.some.inj h
        refine ⟨by rw [Nat.add_mul, Nat.mul_comm]; omega, fun j hj => ?_⟩
        refine Nat.succ_le_of_lt (Nat.div_lt_of_lt_mul ?_)
        rcases Nat.lt_or_eq_of_le hj with h | h
        · rw [Nat.mul_comm]; exact h
        · rw [h] at hm; simp at hm
      · cases h
  · cases h

theorem Sum3.ceil {p q r : Rt} {a b c : Nat} (h : Sum3 p q r) (hp : ceilR p = some a) (hq : ceilR q = some b) (hr : ceilR r = some c) : c ≤ a + b ∧ a ≤ c ∧ b ≤ c := by
  obtain ⟨_, ⟨h1, h2, h3⟩, _, he⟩ := h
  obtain ⟨p1, p2⟩ := ceilR_spec h1 hp
  obtain ⟨q1, q2⟩ := ceilR_spec h2 hq
  obtain ⟨r1, r2⟩ := ceilR_spec h3 hr
  refine ⟨r2 _ ?_, p2 _ ?_, q2 _ ?_⟩
  · refine Nat.le_of_mul_le_mul_right (c := p.d * q.d) ?_ (Nat.mul_pos h1 h2)
    rw [he]
    have e1 : p.n * q.d ≤ a * p.d * q.d := Nat.mul_le_mul_right _ p1
    have e2 : q.n * p.d ≤ b * q.d * p.d := Nat.mul_le_mul_right _ q1
    have e3 := Nat.mul_le_mul_right r.d (Nat.add_le_add e1 e2)
    have e4 : (a * p.d * q.d + b * q.d * p.d) * r.d = (a + b) * r.d * (p.d * q.d) := by grind
    omega
  · refine Nat.le_of_mul_le_mul_right (c := q.d * r.d) ?_ (Nat.mul_pos h2 h3)
    have e1 := Nat.mul_le_mul_right (p.d * q.d) r1
    have e2 : p.n * (q.d * r.d) ≤ (p.n * q.d + q.n * p.d) * r.d := by
      rw [Nat.add_mul, ← Nat.mul_assoc]; exact Nat.le_add_right _ _
    have e4 : c * r.d * (p.d * q.d) = c * p.d * (q.d * r.d) := by grind
    omega
  · refine Nat.le_of_mul_le_mul_right (c := p.d * r.d) ?_ (Nat.mul_pos h1 h3)
    have e1 := Nat.mul_le_mul_right (p.d * q.d) r1
    have e2 : q.n * (p.d * r.d) ≤ (p.n * q.d + q.n * p.d) * r.d := by
      rw [Nat.add_mul, ← Nat.mul_assoc]; exact Nat.le_add_left _ _
    have e4 : c * r.d * (p.d * q.d) = c * q.d * (p.d * r.d) := by grind
    omega

/-- Numbers of at most 40 bytes. -/
def B40 : Nat := 256 ^ 40
/-- A ratio below a bound. -/
def Lt (B : Nat) (a : Rt) : Prop := a.n < B ∧ a.d < B
theorem Lt.mul {B C : Nat} {a b c : Rt} (ha : Lt B a) (hb : Lt C b) (h : mulR a b = some c) : Lt (B * C) c := by
  obtain rfl := mulR_some h
  exact ⟨Nat.lt_of_le_of_lt (Nat.div_le_self _ _) (Nat.mul_lt_mul'' ha.1 hb.1), Nat.lt_of_le_of_lt (Nat.div_le_self _ _) (Nat.mul_lt_mul'' ha.2 hb.2)⟩
theorem Lt.inv {B : Nat} {a : Rt} (ha : Lt B a) : Lt B (invR a) := ⟨ha.2, ha.1⟩

/-- What is asked of an instruction. -/
structure InOk (x : In) : Prop where
  load : x.op = 3 → x.neg = false ∧ 0 < bv x.n ∧ 0 < bv x.d
  use : x.op = 4 ∨ x.op = 5 → x.neg = false ∧ 0 < bv x.d
  run : x.op = 6 → 0 ≤ x.B ∧ x.B ≤ 15
  lt : Lt B40 x.rt

def UseOk (x : UseR × UseR × UseR) : Prop := x.2.1.item = x.1.item ∧ x.2.2.item = x.1.item ∧ x.2.2.out = x.1.out ∧ x.2.2.back = x.1.back ∧ Sum3 x.1.amt x.2.1.amt x.2.2.amt ∧ Lt (B40 * (B40 * B40)) x.1.amt ∧ Lt (B40 * (B40 * B40)) x.2.1.amt ∧ x.1.amt.ok ∧ x.2.1.amt.ok
def WorkOk (x : (Int × Int) × (Int × Int) × (Int × Int)) : Prop := x.2.2.1 = x.1.1 ∧ x.2.2.2 ≤ x.1.2 + x.2.1.2 ∧ x.1.2 ≤ x.2.2.2 ∧ x.2.1.2 ≤ x.2.2.2 ∧ 0 ≤ x.1.2 ∧ x.1.2 ≤ 16492674416640 ∧ 0 ≤ x.2.1.2 ∧ x.2.1.2 ≤ 16492674416640

/-- Two runs of one program. -/
structure Pair (s t : Mst) : Prop where
  next : t.next = s.next
  fuel : t.fuel = s.fuel
  lead : t.lead = s.lead
  uses : t.uses.length = s.uses.length
  works : t.works.length = s.works.length
/-- The run of a sum beside two runs. -/
structure Sim (s t r : Mst) : Prop where
  next : t.next = s.next ∧ r.next = s.next
  fuel : t.fuel = s.fuel ∧ r.fuel = s.fuel
  lead : t.lead = s.lead ∧ r.lead = s.lead
  bat : Sum3 s.bat t.bat r.bat
  lt : Lt (B40 * B40) s.bat ∧ Lt (B40 * B40) t.bat
  uses : ∃ l : List (UseR × UseR × UseR), s.uses = l.map (·.1) ∧ t.uses = l.map (·.2.1) ∧ r.uses = l.map (·.2.2) ∧ ∀ x ∈ l, UseOk x
  works : ∃ l : List ((Int × Int) × (Int × Int) × (Int × Int)), s.works = l.map (·.1) ∧ t.works = l.map (·.2.1) ∧ r.works = l.map (·.2.2) ∧ ∀ x ∈ l, WorkOk x

theorem stepI_pair {ch : List Int} {day : Int} {a b : Rt} {x : In} {s t s' t' : Mst} (h : Pair s t) (hs : stepI ch day a x s = .go s') (ht : stepI ch day b x t = .go t') : Pair s' t' := by
  obtain ⟨h1, h2, h3, h4, h5⟩ := h
  unfold stepI at hs ht
  by_cases o1 : x.op = 1
  · rw [if_pos o1] at hs ht
    cases hs; cases ht
    exact ⟨by simp only [h1], h2, h3, h4, h5⟩
  rw [if_neg o1] at hs ht
  by_cases o2 : x.op = 2
  · rw [if_pos o2] at hs ht
    cases hs; cases ht
    exact ⟨by simp only [h1], h2, h3, h4, h5⟩
  rw [if_neg o2] at hs ht
  by_cases o3 : x.op = 3
  · rw [if_pos o3] at hs ht
    cases e : divR a x.rt with
    | none => rw [e] at hs; cases hs
    | some p => cases f : divR b x.rt with
      | none => rw [f] at ht; cases ht
      | some q =>
        rw [e] at hs; rw [f] at ht; cases hs; cases ht
        exact ⟨h1, h2, rfl, h4, h5⟩
  rw [if_neg o3] at hs ht
  by_cases o4 : x.op = 4
  · rw [if_pos o4] at hs ht
    cases e : mulR x.rt s.bat with
    | none => rw [e] at hs; cases hs
    | some p => cases f : mulR x.rt t.bat with
      | none => rw [f] at ht; cases ht
      | some q =>
        rw [e] at hs; rw [f] at ht; cases hs; cases ht
        exact ⟨h1, h2, h3, by simp [h4], h5⟩
  rw [if_neg o4] at hs ht
  by_cases o5 : x.op = 5
  · rw [if_pos o5] at hs ht
    cases e : mulR x.rt s.bat with
    | none => rw [e] at hs; cases hs
    | some p => cases f : mulR x.rt t.bat with
      | none => rw [f] at ht; cases ht
      | some q =>
        rw [e] at hs; rw [f] at ht; cases hs; cases ht
        exact ⟨h1, h2, h3, by simp [h4], h5⟩
  rw [if_neg o5] at hs ht
  by_cases o6 : x.op = 6
  · rw [if_pos o6] at hs ht
    cases e : ceilR s.bat with
    | none => rw [e] at hs; cases hs
    | some p => cases f : ceilR t.bat with
      | none => rw [f] at ht; cases ht
      | some q =>
        rw [e] at hs; rw [f] at ht
        simp only at hs ht
        by_cases k1 : 1099511627776 < p
        · rw [if_pos k1] at hs; cases hs
        by_cases k2 : 1099511627776 < q
        · rw [if_pos k2] at ht; cases ht
        rw [if_neg k1] at hs; rw [if_neg k2] at ht; cases hs; cases ht
        exact ⟨h1, h2, h3, h4, by simp [h5]⟩
  rw [if_neg o6] at hs ht
  by_cases o7 : x.op = 7
  · rw [if_pos o7] at hs; cases hs
  · rw [if_neg o7] at hs; cases hs

/-- A step that ends a run well is 'done'. -/
theorem stepI_done {ch : List Int} {day : Int} {a : Rt} {x : In} {s s' : Mst} (hs : stepI ch day a x s = .stop 0 s') : x.op = 7 ∧ s' = s := by
  unfold stepI at hs
  by_cases o1 : x.op = 1
  · rw [if_pos o1] at hs; cases hs
  rw [if_neg o1] at hs
  by_cases o2 : x.op = 2
  · rw [if_pos o2] at hs; cases hs
  rw [if_neg o2] at hs
  by_cases o3 : x.op = 3
  · rw [if_pos o3] at hs
    split at hs <;> cases hs
  rw [if_neg o3] at hs
  by_cases o4 : x.op = 4
  · rw [if_pos o4] at hs
    split at hs <;> cases hs
  rw [if_neg o4] at hs
  by_cases o5 : x.op = 5
  · rw [if_pos o5] at hs
    split at hs <;> cases hs
  rw [if_neg o5] at hs
  by_cases o6 : x.op = 6
  · rw [if_pos o6] at hs
    split at hs
    · cases hs
    · split at hs <;> cases hs
  rw [if_neg o6] at hs
  by_cases o7 : x.op = 7
  · rw [if_pos o7] at hs
    cases hs
    exact ⟨o7, rfl⟩
  · rw [if_neg o7] at hs; cases hs
theorem stepI_seven {ch : List Int} {day : Int} {a : Rt} {x : In} (h : x.op = 7) (s : Mst) : stepI ch day a x s = .stop 0 s := by
  simp [stepI, h]

theorem runI_pair (code : List In) (ch : List Int) (day : Int) (a b : Rt) : ∀ (g : Nat) (s t : Mst), Pair s t → (runI code ch day a g s).1 = 0 → (runI code ch day b g t).1 = 0 → Pair (runI code ch day a g s).2 (runI code ch day b g t).2
  | 0, s, t, _, h1, _ => by simp [runI] at h1
  | g + 1, s, t, h, h1, h2 => by
    unfold runI at h1 h2 ⊢
    rw [h.fuel, h.next] at h2 ⊢
    by_cases hf : s.fuel = 0
    · rw [if_pos hf] at h1; simp at h1
    rw [if_neg hf] at h1 h2 ⊢
    rw [if_neg hf]
    cases hc : code[s.next]? with
    | none => rw [hc] at h1; simp at h1
    | some x =>
      rw [hc] at h1 h2
      simp only at h1 h2 ⊢
      have hp : Pair { s with fuel := s.fuel - 1, next := s.next + 1 } { t with fuel := s.fuel - 1, next := s.next + 1 } := ⟨rfl, rfl, h.lead, h.uses, h.works⟩
      cases e1 : stepI ch day a x { s with fuel := s.fuel - 1, next := s.next + 1 } with
      | stop e s' =>
        rw [e1] at h1
        simp only at h1
        subst h1
        obtain ⟨h7, rfl⟩ := stepI_done e1
        rw [stepI_seven h7]
        exact hp
      | go s' => cases e2 : stepI ch day b x { t with fuel := s.fuel - 1, next := s.next + 1 } with
        | stop e t' =>
          rw [e2] at h2
          simp only at h2
          subst h2
          obtain ⟨h7, rfl⟩ := stepI_done e2
          rw [stepI_seven h7] at e1
          cases e1
        | go t' =>
          rw [e1] at h1; rw [e2] at h2
          exact runI_pair code ch day a b g s' t' (stepI_pair hp e1 e2) h1 h2

theorem In.rt_neg (x : In) : x.rt.neg = x.neg := rfl
theorem stepI_sum {ch : List Int} {day : Int} {a b c : Rt} {x : In} {s t r s' t' : Mst} (hx : InOk x) (habc : Sum3 a b c) (la : Lt B40 a) (lb : Lt B40 b) (h : Sim s t r) (hs : stepI ch day a x s = .go s') (ht : stepI ch day b x t = .go t') :
    (∃ r', stepI ch day c x r = .go r' ∧ Sim s' t' r') ∨ (∃ r', stepI ch day c x r = .stop 2 r') := by
  obtain ⟨h1, h2, h3, h4, h5, ⟨lu, u1, u2, u3, hu⟩, ⟨lw, w1, w2, w3, hw⟩⟩ := h
  unfold stepI at hs ht ⊢
  by_cases o1 : x.op = 1
  · rw [if_pos o1] at hs ht
    rw [if_pos o1]
    cases hs; cases ht
    exact .inl ⟨_, rfl, ⟨by simp only [h1.1], by simp only [h1.2]⟩, h2, h3, h4, h5, ⟨lu, u1, u2, u3, hu⟩, ⟨lw, w1, w2, w3, hw⟩⟩
  rw [if_neg o1] at hs ht
  rw [if_neg o1]
  by_cases o2 : x.op = 2
  · rw [if_pos o2] at hs ht
    rw [if_pos o2]
    cases hs; cases ht
    exact .inl ⟨_, rfl, ⟨by simp only [h1.1], by simp only [h1.2]⟩, h2, h3, h4, h5, ⟨lu, u1, u2, u3, hu⟩, ⟨lw, w1, w2, w3, hw⟩⟩
  rw [if_neg o2] at hs ht
  rw [if_neg o2]
  by_cases o3 : x.op = 3
  · rw [if_pos o3] at hs ht
    rw [if_pos o3]
    obtain ⟨i1, i2, i3⟩ := hx.load o3
    cases e : divR a x.rt with
    | none => rw [e] at hs; cases hs
    | some p => cases f : divR b x.rt with
      | none => rw [f] at ht; cases ht
      | some q => cases g : divR c x.rt with
        | none => exact .inr ⟨_, rfl⟩
        | some z =>
          rw [e] at hs; rw [f] at ht; cases hs; cases ht
          exact .inl ⟨_, rfl, h1, h2, ⟨rfl, rfl⟩, habc.mul (m := invR x.rt) i1 i2 e f g, ⟨la.mul hx.lt.inv e, lb.mul hx.lt.inv f⟩, ⟨lu, u1, u2, u3, hu⟩, ⟨lw, w1, w2, w3, hw⟩⟩
  rw [if_neg o3] at hs ht
  rw [if_neg o3]
  by_cases o4 : x.op = 4
  · rw [if_pos o4] at hs ht
    rw [if_pos o4]
    obtain ⟨i1, i2⟩ := hx.use (.inl o4)
    cases e : mulR x.rt s.bat with
    | none => rw [e] at hs; cases hs
    | some p => cases f : mulR x.rt t.bat with
      | none => rw [f] at ht; cases ht
      | some q => cases g : mulR x.rt r.bat with
        | none => exact .inr ⟨_, rfl⟩
        | some z =>
          rw [e] at hs; rw [f] at ht; cases hs; cases ht
          refine .inl ⟨_, rfl, h1, h2, h3, h4, h5, ⟨lu ++ [(⟨x.A, p, false, x.B == 1⟩, ⟨x.A, q, false, x.B == 1⟩, ⟨x.A, z, false, x.B == 1⟩)], by simp [u1], by simp [u2], by simp [u3], fun y hy => ?_⟩, ⟨lw, w1, w2, w3, hw⟩⟩
          rcases List.mem_append.1 hy with hy | hy
          · exact hu y hy
          · obtain rfl := List.mem_singleton.1 hy
            exact ⟨rfl, rfl, rfl, rfl, h4.mul (m := x.rt) i1 i2 (by rw [mulR_comm]; exact e) (by rw [mulR_comm]; exact f) (by rw [mulR_comm]; exact g), hx.lt.mul h5.1 e, hx.lt.mul h5.2 f, mulR_ok e i2 h4.2.1.1, mulR_ok f i2 h4.2.1.2.1⟩
  rw [if_neg o4] at hs ht
  rw [if_neg o4]
  by_cases o5 : x.op = 5
  · rw [if_pos o5] at hs ht
    rw [if_pos o5]
    obtain ⟨i1, i2⟩ := hx.use (.inr o5)
    cases e : mulR x.rt s.bat with
    | none => rw [e] at hs; cases hs
    | some p => cases f : mulR x.rt t.bat with
      | none => rw [f] at ht; cases ht
      | some q => cases g : mulR x.rt r.bat with
        | none => exact .inr ⟨_, rfl⟩
        | some z =>
          rw [e] at hs; rw [f] at ht; cases hs; cases ht
          refine .inl ⟨_, rfl, h1, h2, h3, h4, h5, ⟨lu ++ [(⟨x.A, p, true, false⟩, ⟨x.A, q, true, false⟩, ⟨x.A, z, true, false⟩)], by simp [u1], by simp [u2], by simp [u3], fun y hy => ?_⟩, ⟨lw, w1, w2, w3, hw⟩⟩
          rcases List.mem_append.1 hy with hy | hy
          · exact hu y hy
          · obtain rfl := List.mem_singleton.1 hy
            exact ⟨rfl, rfl, rfl, rfl, h4.mul (m := x.rt) i1 i2 (by rw [mulR_comm]; exact e) (by rw [mulR_comm]; exact f) (by rw [mulR_comm]; exact g), hx.lt.mul h5.1 e, hx.lt.mul h5.2 f, mulR_ok e i2 h4.2.1.1, mulR_ok f i2 h4.2.1.2.1⟩
  rw [if_neg o5] at hs ht
  rw [if_neg o5]
  by_cases o6 : x.op = 6
  · rw [if_pos o6] at hs ht
    rw [if_pos o6]
    obtain ⟨i1, i2⟩ := hx.run o6
    cases e : ceilR s.bat with
    | none => rw [e] at hs; cases hs
    | some p => cases f : ceilR t.bat with
      | none => rw [f] at ht; cases ht
      | some q => cases g : ceilR r.bat with
        | none => exact .inr ⟨_, rfl⟩
        | some z =>
          rw [e] at hs; rw [f] at ht
          simp only at hs ht ⊢
          by_cases k1 : 1099511627776 < p
          · rw [if_pos k1] at hs; cases hs
          by_cases k2 : 1099511627776 < q
          · rw [if_pos k2] at ht; cases ht
          by_cases k3 : 1099511627776 < z
          · rw [if_pos k3]; exact .inr ⟨_, rfl⟩
          rw [if_neg k1] at hs; rw [if_neg k2] at ht; rw [if_neg k3]; cases hs; cases ht
          refine .inl ⟨_, rfl, h1, h2, h3, h4, h5, ⟨lu, u1, u2, u3, hu⟩, ⟨lw ++ [((x.A, x.B * p), (x.A, x.B * q), (x.A, x.B * z))], by simp [w1], by simp [w2], by simp [w3], fun y hy => ?_⟩⟩
          rcases List.mem_append.1 hy with hy | hy
          · exact hw y hy
          · obtain rfl := List.mem_singleton.1 hy
            obtain ⟨c1, c2, c3⟩ := h4.ceil e f g
            have b1 : ∀ k : Nat, ¬ 1099511627776 < k → 0 ≤ x.B * (k : Int) ∧ x.B * (k : Int) ≤ 16492674416640 := fun k hk =>
              ⟨Int.mul_nonneg i1 (by omega), Int.le_trans (Int.mul_le_mul_of_nonneg_left (show (k : Int) ≤ 1099511627776 by omega) i1) (by omega)⟩
            refine ⟨rfl, ?_, Int.mul_le_mul_of_nonneg_left (by omega) i1, Int.mul_le_mul_of_nonneg_left (by omega) i1, (b1 p k1).1, (b1 p k1).2, (b1 q k2).1, (b1 q k2).2⟩
            show x.B * (z : Int) ≤ x.B * (p : Int) + x.B * (q : Int)
            rw [← Int.mul_add]
            exact Int.mul_le_mul_of_nonneg_left (by omega) i1
  rw [if_neg o6] at hs ht
  by_cases o7 : x.op = 7
  · rw [if_pos o7] at hs; cases hs
  · rw [if_neg o7] at hs; cases hs

theorem runI_sum (code : List In) (ch : List Int) (day : Int) (a b c : Rt) (hx : ∀ x ∈ code, InOk x) (habc : Sum3 a b c) (la : Lt B40 a) (lb : Lt B40 b) : ∀ (g : Nat) (s t r : Mst), Sim s t r → (runI code ch day a g s).1 = 0 → (runI code ch day b g t).1 = 0 →
    (runI code ch day c g r).1 = 2 ∨ ((runI code ch day c g r).1 = 0 ∧ Sim (runI code ch day a g s).2 (runI code ch day b g t).2 (runI code ch day c g r).2)
  | 0, s, t, r, _, h1, _ => by simp [runI] at h1
  | g + 1, s, t, r, h, h1, h2 => by
    unfold runI at h1 h2 ⊢
    rw [h.fuel.1, h.next.1] at h2 ⊢
    rw [h.fuel.2, h.next.2]
    by_cases hf : s.fuel = 0
    · rw [if_pos hf] at h1; simp at h1
    rw [if_neg hf] at h1 h2
    rw [if_neg hf, if_neg hf, if_neg hf]
    cases hc : code[s.next]? with
    | none => rw [hc] at h1; simp at h1
    | some x =>
      rw [hc] at h1 h2
      simp only at h1 h2 ⊢
      have hp : Sim { s with fuel := s.fuel - 1, next := s.next + 1 } { t with fuel := s.fuel - 1, next := s.next + 1 } { r with fuel := s.fuel - 1, next := s.next + 1 } := ⟨⟨rfl, rfl⟩, ⟨rfl, rfl⟩, h.lead, h.bat, h.lt, h.uses, h.works⟩
      cases e1 : stepI ch day a x { s with fuel := s.fuel - 1, next := s.next + 1 } with
      | stop e s' =>
        rw [e1] at h1
        simp only at h1
        subst h1
        obtain ⟨h7, rfl⟩ := stepI_done e1
        rw [stepI_seven h7, stepI_seven h7]
        exact .inr ⟨rfl, hp⟩
      | go s' => cases e2 : stepI ch day b x { t with fuel := s.fuel - 1, next := s.next + 1 } with
        | stop e t' =>
          rw [e2] at h2
          simp only at h2
          subst h2
          obtain ⟨h7, rfl⟩ := stepI_done e2
          rw [stepI_seven h7] at e1
          cases e1
        | go t' =>
          rw [e1] at h1; rw [e2] at h2
          rcases stepI_sum (hx x (List.mem_of_getElem? hc)) habc la lb hp e1 e2 with ⟨r', e3, hp'⟩ | ⟨r', e3⟩
          · rw [e3]
            exact runI_sum code ch day a b c hx habc la lb g s' t' r' hp' h1 h2
          · rw [e3]
            exact .inl rfl

theorem begin0_pair (f : Nat) : Pair (begin0 f) (begin0 f) := ⟨rfl, rfl, rfl, rfl, rfl⟩
theorem begin0_sim (f : Nat) : Sim (begin0 f) (begin0 f) (begin0 f) := by
  have h : 1 < B40 * B40 := Nat.le_of_ble_eq_true (n := 2) rfl
  refine ⟨⟨rfl, rfl⟩, ⟨rfl, rfl⟩, ⟨rfl, rfl⟩, ⟨⟨rfl, rfl, rfl⟩, ⟨?_, ?_, ?_⟩, ?_, ?_⟩, ⟨⟨?_, h⟩, ⟨?_, h⟩⟩, ⟨[], rfl, rfl, rfl, fun _ h => by cases h⟩, ⟨[], rfl, rfl, rfl, fun _ h => by cases h⟩⟩
  all_goals first | (simp [begin0]; done) | (simp [begin0]; omega)
end Go.Proofs.YtiohceaddojedaaGreatDoor
