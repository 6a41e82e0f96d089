/- Contracts of functions that the law reaches, and plain lemmas, texts Qp Qa Qb Qc Qd Qe Qf Qg Qh Qi Qj Qk Ql: no condition beyond those that each theorem names. -/
import Derived.Test.YtoolanjbmbcaiaaGreatDoorGa
import Derived.Test.YtoolanjbmbcaiaaGreatDoorAp
import Derived.Test.YtoolanjbmbcaiaaGreatDoorGb
namespace Go.Proofs.YtoolanjbmbcaiaaGreatDoor.Bf

/-- The value of digits, the least significant one first. -/
def dval : List Int → Int
  | [] => 0
  | d :: l => d + 256 * dval l
theorem dval_append (a b : List Int) : dval (a ++ b) = dval a + 256 ^ a.length * dval b := by
  induction a with
  | nil => simp [dval]
  | cons d a ih => simp only [List.cons_append, dval, ih, List.length_cons, Int.pow_succ]; grind
theorem dval_snoc (a : List Int) (d : Int) : dval (a ++ [d]) = dval a + 256 ^ a.length * d := by rw [dval_append]; simp [dval]
/-- They are digits. -/
def Dig (l : List Int) : Prop := ∀ d ∈ l, 0 ≤ d ∧ d ≤ 255
theorem Dig.snoc {l : List Int} {d : Int} (h : Dig l) (h1 : 0 ≤ d) (h2 : d ≤ 255) : Dig (l ++ [d]) := by
  intro x hx
  rcases List.mem_append.1 hx with h' | h'
  · exact h x h'
  · obtain rfl := List.mem_singleton.1 h'
    exact ⟨h1, h2⟩
theorem Dig.bounds {l : List Int} (h : Dig l) : 0 ≤ dval l ∧ dval l < 256 ^ l.length := by
  induction l with
  | nil => simp [dval]
  | cons d l ih =>
    obtain ⟨h1, h2⟩ := h d (by simp)
    obtain ⟨i1, i2⟩ := ih fun x hx => h x (by simp [hx])
    simp only [dval, List.length_cons, Int.pow_succ]
    omega
theorem Dig.drop {l : List Int} (h : Dig l) (k : Nat) : Dig (l.drop k) := fun x hx => h x (List.mem_of_mem_drop hx)
/-- The digits of a string. -/
def digL (s : List UInt8) : List Int := s.reverse.map fun c => (c.toNat : Int)
theorem digL_length (s : List UInt8) : (digL s).length = s.length := by simp [digL]
theorem digL_dig (s : List UInt8) : Dig (digL s) := by
  intro d hd
  simp only [digL, List.mem_map] at hd
  obtain ⟨c, _, rfl⟩ := hd
  have := c.toNat_lt
  omega
theorem dval_map (l : List UInt8) : dval (l.map fun c => (c.toNat : Int)) = (lval l : Int) := by
  induction l with
  | nil => rfl
  | cons c l ih => simp only [List.map_cons, dval, ih, lval]; omega
theorem dval_digL (s : List UInt8) : dval (digL s) = (bval s : Int) := dval_map s.reverse
theorem digL_get (s : List UInt8) (i : Nat) (h : i < s.length) : (digL s)[i]? = some ((s[s.length - 1 - i]'(by omega)).toNat : Int) := by
  simp [digL, h]
theorem dval_drop {l : List Int} {i : Nat} {d : Int} (h : l[i]? = some d) : dval (l.drop i) = d + 256 * dval (l.drop (i + 1)) := by
  obtain ⟨hi, rfl⟩ := List.getElem?_eq_some_iff.1 h
  rw [List.drop_eq_getElem_cons hi]; rfl
theorem dval_take {l : List Int} {i : Nat} {d : Int} (h : l[i]? = some d) : dval (l.take (i + 1)) = dval (l.take i) + 256 ^ i * d := by
  obtain ⟨hi, rfl⟩ := List.getElem?_eq_some_iff.1 h
  rw [List.take_add_one, List.getElem?_eq_getElem hi, Option.toList_some, dval_snoc, List.length_take, Nat.min_eq_left (by omega)]
theorem dval_take_ge {l : List Int} {i : Nat} (h : l.length ≤ i) : dval (l.take i) = dval l := by rw [List.take_of_length_le h]

/-- One digit of a number from its upper digits. -/
theorem benc_dig {l : List Int} {i : Nat} {d : Int} (hl : Dig l) (h : l[i]? = some d) (h0 : dval (l.drop (i + 1)) ≠ 0 ∨ d ≠ 0) :
    benc (dval (l.drop i)).toNat = benc (dval (l.drop (i + 1))).toNat ++ [UInt8.ofNat d.toNat] := by
  have hb := (hl.drop (i + 1)).bounds
  have hd := hl d (List.mem_of_getElem? h)
  rw [dval_drop h, ← benc_step _ _ (by omega) (by omega)]
  congr 1
  omega

/-- One step of carrying. -/
theorem carry_step {A V : Int} {i : Nat} {over x d over' : Int} (h : A + 256 ^ i * over = V) (h' : d + 256 * over' = over + x) : A + 256 ^ i * (d % 256) + 256 ^ (i + 1) * (over' + d / 256) = V + 256 ^ i * x := by
  have e : d = 256 * (d / 256) + d % 256 := (Int.mul_ediv_add_emod d 256).symm
  rw [Int.pow_succ]
  have : over = d + 256 * over' - x := by omega
  subst this
  subst h
  generalize (256 : Int) ^ i = P
  have e2 : P * (d + 256 * over' - x) = P * (256 * (d / 256) + d % 256 + 256 * over' - x) := by rw [← e]
  grind
/-- Behind the last step. -/
theorem carry_end {A V over : Int} {i : Nat} (h : A + 256 ^ i * over = V) (_hA : 0 ≤ A) (hA' : A < 256 ^ i) (hV : 0 ≤ V) (ho : over ≤ 0) : A = V := by
  have hp : (0 : Int) < 256 ^ i := Int.pow_pos (by omega)
  generalize (256 : Int) ^ i = P at *
  rcases Int.lt_or_eq_of_le ho with h1 | h1
  · have : P * over ≤ P * (-1) := Int.mul_le_mul_of_nonneg_left (by omega) (by omega)
    omega
  · subst h1; omega

/-- Comparing strings of one length. -/
theorem bval_append (a b : List UInt8) : bval (a ++ b) = bval a * 256 ^ b.length + bval b := by
  unfold bval
  rw [List.reverse_append, lval_append, List.length_reverse]
  rw [Nat.mul_comm]; omega
theorem bval_lt_of {a b : List UInt8} (hl : a.length = b.length) {i : Nat} (hi : i < a.length) (he : a.take i = b.take i) (h : a[i].toNat < (b[i]'(by omega)).toNat) : bval a < bval b := by
  have e1 : a = a.take i ++ a[i] :: a.drop (i + 1) := by rw [← List.drop_eq_getElem_cons hi, List.take_append_drop]
  have hi' : i < b.length := by omega
  have e2 : b = b.take i ++ b[i] :: b.drop (i + 1) := by rw [← List.drop_eq_getElem_cons hi', List.take_append_drop]
  rw [e1, e2, bval_append, bval_append, he, bval_cons, bval_cons]
  have h1 := bval_lt (a.drop (i + 1))
  have h2 : (a.drop (i + 1)).length = (b.drop (i + 1)).length := by simp; omega
  simp only [List.length_cons, h2] at h1 ⊢
  have h3 := Nat.mul_le_mul_right (256 ^ (b.drop (i + 1)).length) (show a[i].toNat + 1 ≤ (b[i]'hi').toNat from h)
  rw [Nat.add_mul, Nat.one_mul] at h3
  omega
theorem bval_lt_len {a b : List UInt8} (ha : Canon b) (h : a.length < b.length) : bval a < bval b := by
  cases b with
  | nil => simp at h
  | cons c b =>
    exact Nat.lt_of_lt_of_le (bval_lt a) (Nat.le_trans (Nat.pow_le_pow_right (by omega) (by simp at h; omega)) (bval_ge ha))

/-- Quotient and remainder, one digit more. -/
theorem divide_step {V b c : Nat} (hb : 0 < b) : (256 * V + c) / b = 256 * (V / b) + (256 * (V % b) + c) / b ∧ (256 * V + c) % b = (256 * (V % b) + c) % b := by
  have e : 256 * V + c = b * (256 * (V / b)) + (256 * (V % b) + c) := by
    have := Nat.div_add_mod V b
    have h2 : b * (256 * (V / b)) = 256 * (b * (V / b)) := by grind
    omega
  rw [e]
  exact ⟨by rw [Nat.mul_add_div hb], by rw [Nat.mul_add_mod]⟩
theorem divide_digit {V b c : Nat} (hb : 0 < b) (hc : c < 256) : (256 * (V % b) + c) / b < 256 := by
  have := Nat.mod_lt V hb
  rw [Nat.div_lt_iff_lt_mul hb]
  omega

/-- Products of digits. -/
theorem dval_set {l : List Int} {i : Nat} {d x : Int} (h : l[i]? = some d) : dval (l.set i x) = dval l + 256 ^ i * (x - d) := by
  induction l generalizing i with
  | nil => simp at h
  | cons a l ih =>
    cases i with
    | zero => simp at h; subst h; simp [dval]; omega
    | succ i =>
      simp only [List.getElem?_cons_succ] at h
      simp only [List.set_cons_succ, dval, ih h, Int.pow_succ]
      grind
theorem dval_zeros (n : Nat) : dval (List.replicate n 0) = 0 := by
  induction n with
  | zero => rfl
  | succ n ih => simp [List.replicate_succ, dval, ih]
end Go.Proofs.YtoolanjbmbcaiaaGreatDoor.Bf
namespace Go.Proofs.YtoolanjbmbcaiaaGreatDoor
open Go.RowKit Bf

instance (s : ByteArray) : Decidable (Nat' s) := inferInstanceAs (Decidable (Canon _))
theorem empty_ba {s : ByteArray} (h : ¬ 0 < s.size) : s = ⟨#[]⟩ := by
  rcases s with ⟨⟨l⟩⟩
  have : l.length = 0 := by
    have h' : ¬ 0 < l.length := h
    omega
  rw [List.length_eq_zero_iff] at this
  rw [this]

theorem natural_any (s : ByteArray) (w : World) : Calls Tryz.prog 72 #[.string s] w fun e w' => e = .returned (.bool (decide (Nat' s))) ∧ w = w' := by
  by_cases h0 : 0 < s.size
  · have hidx := run_index_str (P := Tryz.prog) Tryz.underlying9 s 0 0 rfl h0
    have te := isEmpty_false h0
    have hv : decide (Nat' s) = (((s[0]'h0).toNat : Int) != 0) := by
      rw [Bool.eq_iff_iff]
      simp only [decide_eq_true_eq, nat'_iff, bne_iff_ne, ne_eq]
      exact ⟨fun h e => h h0 (by omega), fun h _ e => h (by omega)⟩
    rw [hv]
    generalize (s[0]'h0).toNat = x at *
    clear hv
    go_enter Tryz.func72, Tryz.ntmps72
    go_wp2
    go_ret
    exact ⟨rfl, rfl⟩
  · obtain rfl := empty_ba h0
    have hv : decide (Nat' (⟨#[]⟩ : ByteArray)) = true := by decide
    rw [hv]
    clear hv h0
    go_enter Tryz.func72, Tryz.ntmps72
    go_wp2
    go_ret
    exact ⟨rfl, rfl⟩

theorem check06_any (s : ByteArray) (w : World) : Calls Tryz.prog 45 #[.string s] w fun e w' => e = .returned (.int .i64 (chk (fun _ => s) 1)) ∧ w = w' := by
  have HN := Lib.hid (fun W => natural_any s W)
  have hnot : ∀ (x : Bool) (w : World), (Op.unary .not (.bool x)).run Tryz.prog w = .ok (.bool (!x)) w := fun _ _ => rfl
  by_cases h1 : Nat' s
  · rw [decide_eq_true h1] at HN
    by_cases h2 : s.size ≤ 256
    · rw [chk_ok (ss := fun _ => s) fun _ _ => ⟨h1, h2⟩]
      have t1 : decide ((256 : Int) < (s.size : Int)) = false := by simp; omega
      clear h1
      go_enter Tryz.func45, Tryz.ntmps45
      go_wp2_with fail
      refine (HN.out _).mono ?_
      rintro e w1 ⟨rfl, rfl⟩
      go_wp2
      go_ret
      exact ⟨rfl, rfl⟩
    · rw [chk_limit (ss := fun _ => s) (j := 0) (fun _ _ => h1) (by omega) (by omega)]
      have t1 : decide ((256 : Int) < (s.size : Int)) = true := by simp; omega
      clear h1
      go_enter Tryz.func45, Tryz.ntmps45
      go_wp2_with fail
      refine (HN.out _).mono ?_
      rintro e w1 ⟨rfl, rfl⟩
      go_wp2
      go_ret
      exact ⟨rfl, rfl⟩
  · rw [decide_eq_false h1] at HN
    rw [chk_nat (ss := fun _ => s) (j := 0) (by omega) h1]
    clear h1
    go_enter Tryz.func45, Tryz.ntmps45
    go_wp2_with fail
    refine (HN.out _).mono ?_
    rintro e w1 ⟨rfl, rfl⟩
    go_wp2
    go_ret
    exact ⟨rfl, rfl⟩

theorem both_ok (a b : ByteArray) (w : World) (ha : Short a) (hb : Short b) : Calls Tryz.prog 73 #[.string a, .string b] w fun e w' => e = .returned (.int .i64 0) ∧ w = w' := by
  have HA := Lib.hid (fun W => natural_any a W)
  have HB := Lib.hid (fun W => natural_any b W)
  rw [decide_eq_true ha.1] at HA
  rw [decide_eq_true hb.1] at HB
  have hnot : ∀ (x : Bool) (w : World), (Op.unary .not (.bool x)).run Tryz.prog w = .ok (.bool (!x)) w := fun _ _ => rfl
  have l1 := ha.2
  have l2 := hb.2
  have t1 : decide ((256 : Int) < (a.size : Int)) = false := by simp; omega
  have t2 : decide ((256 : Int) < (b.size : Int)) = false := by simp; omega
  clear ha hb
  go_enter Tryz.func73, Tryz.ntmps73
  go_wp2_with fail
  refine (HA.out _).mono ?_
  rintro e w1 ⟨rfl, rfl⟩
  go_wp2_with fail
  refine (HB.out _).mono ?_
  rintro e w1 ⟨rfl, rfl⟩
  go_wp2
  go_ret
  exact ⟨rfl, rfl⟩

theorem short06_any (s : ByteArray) (w : World) : Calls Tryz.prog 79 #[.string s] w fun e w' => e = .returned (if s.size ≤ 256 then .tuple #[.string s, .int .i64 0] else .tuple #[.string ⟨#[]⟩, .int .i64 2]) ∧ w = w' := by
  by_cases h : s.size ≤ 256
  · rw [if_pos h]
    have t1 : decide ((256 : Int) < (s.size : Int)) = false := by simp; omega
    go_enter Tryz.func79, Tryz.ntmps79
    go_wp2
    go_ret2
    exact ⟨rfl, rfl⟩
  · rw [if_neg h]
    have t1 : decide ((256 : Int) < (s.size : Int)) = true := by simp; omega
    go_enter Tryz.func79, Tryz.ntmps79
    go_wp2
    go_ret2
    exact ⟨rfl, rfl⟩

theorem IntsV.nth {w : World} {A : Option Addr} {n k : Nat} {c : List Int} (h : IntsV w (.slice A n k) c) {i : Nat} {z : Int} (hz : c[i]? = some z) : ∃ b off, A = some ⟨b, off, none⟩ ∧ b < w.heap.size ∧ w.cell? ⟨b, off + i, none⟩ = some (.int .i64 z) := by
  obtain ⟨_, _, e, _, h⟩ := h
  injection e with a
  subst a
  exact h i z hz

theorem at_any (A : Option Addr) (n cap k : Nat) (c : List Int) (w : World) (h : IntsV w (.slice A n cap) c) (hn : c.length = n) : Calls Tryz.prog 104 #[.slice A n cap, .int .i64 (k : Int)] w fun e w' => e = .returned (.int .i64 (c.getD k 0)) ∧ w = w' := by
  by_cases hk : k < n
  · obtain ⟨z, hz⟩ : ∃ z, c[k]? = some z := ⟨c[k]'(by omega), List.getElem?_eq_getElem (by omega)⟩
    have hv : c.getD k 0 = z := by simp [List.getD, hz]
    obtain ⟨b, off, rfl, hb, hc⟩ := IntsV.nth h hz
    rw [hv]
    have hi0 : (0 : Int) ≤ (k : Int) := by omega
    have hi1 : (k : Int) < (n : Int) := by omega
    clear hv hz h hn
    go_enter Tryz.func104, Tryz.ntmps104
    go_wp2
    go_ret
    exact ⟨rfl, rfl⟩
  · have hv : c.getD k 0 = 0 := by rw [List.getD, List.getElem?_eq_none (by omega)]; rfl
    rw [hv]
    have hi1 : ¬ (k : Int) < (n : Int) := by omega
    clear hv h hn
    go_enter Tryz.func104, Tryz.ntmps104
    go_wp2
    go_ret
    exact ⟨rfl, rfl⟩

theorem ba_get (s : ByteArray) (i : Nat) (h : i < s.size) : s[i]'h = s.data.toList[i]'(by rw [size_eq]; exact h) := rfl
theorem wrap_u8 {x : Nat} (h : x < 256) : IntKind.i64.wrap (x : Int) = (x : Int) := by rw [IntKind.wrap_i64]; omega

set_option maxRecDepth 100000 in
set_option maxHeartbeats 2000000 in
theorem digits_any (s : ByteArray) (n : Nat) (w : World) (hn : s.size = n) (hs : n ≤ 65536) :
    Calls Tryz.prog 78 #[.string s] w fun e w' => ∃ A cap, e = .returned (.slice A n cap) ∧ w'.ownsRow w.heap.size 3 1 (.slice A n cap) n (intC (digL s.data.toList)) ∧ Below w.heap.size w w' := by
  obtain ⟨i0, hi0, hz0, hz1, hz2⟩ := info_parts i64_info
  have HN := Lib.hid hn
  clear hn
  go_enter Tryz.func78, Tryz.ntmps78
  have hsz : (s.size : Int) = (n : Int) := by rw [HN.out]
  go_wp2
  clear hsz
  go_loopw [3, 4] (fun l i wr => ∃ k : Nat, k ≤ n ∧ i = .int .i64 ((n : Int) - 1 - k) ∧ (∃ A cap, l = .slice A k cap) ∧ wr.ownsRow w.heap.size 3 1 l k (intC ((digL s.data.toList).take k)) ∧ Below w.heap.size w wr) (fun _ i _ => (intOf i + 1).toNat)
  case atStart =>
    refine ⟨0, Nat.zero_le _, by go_num, ⟨_, _, rfl⟩, own_empty _ _, (Below.refl _ _).alloc (Nat.le_refl _) _⟩
  case round =>
    obtain ⟨k, hk, rfl, ⟨A, cap, rfl⟩, hown, hb⟩ := hrel
    have HO := Lib.hid hown
    have HB := Lib.hid hb
    clear hown hb
    by_cases hlt : k < n
    · have hx : n - 1 - k < s.size := by have := HN.out; omega
      have hidx := run_index_str (P := Tryz.prog) Tryz.underlying9 s (n - 1 - k) ((n : Int) - 1 - k) (by omega) hx
      have hd : (digL s.data.toList)[k]? = some ((s[n - 1 - k]'hx).toNat : Int) := by
        have e := HN.out
        rw [digL_get _ _ (by rw [size_eq, e]; exact hlt), ba_get]
        simp only [size_eq, e]
      have hw : IntKind.i64.wrap ((s[n - 1 - k]'hx).toNat : Int) = ((s[n - 1 - k]'hx).toNat : Int) := wrap_u8 (UInt8.toNat_lt _)
      have HT : Hid ((digL s.data.toList).take (k + 1) = (digL s.data.toList).take k ++ [((s[n - 1 - k]'hx).toNat : Int)]) := by
        show _ = _
        rw [List.take_add_one, hd]; rfl
      clear hd
      generalize (s[n - 1 - k]'hx).toNat = x at *
      have hge : (0 : Int) ≤ (n : Int) - 1 - k := by omega
      go_wp2_with (at_builtin; refine wpList_append_any _ rfl _ _ _ rfl w.heap.size 3 i0 _ 1 8 Tryz.underlying23 hi0 hz0 hz1 hz2 rfl (by omega) (.slice A k cap) k (intC ((digL s.data.toList).take k)) rfl ?_ (wr.heap.size + 1) (some ⟨wr.heap.size, 0, none⟩) 1 1 (intC [(x : Int)]) rfl ?_ ?_ ?_ ?_ ?_ ?_)
      · exact own_alloc HO.out _
      · exact reads_one _ _ _
      · exact intC_one _
      · simp only [maxLen]; omega
      · omega
      · have := HB.out.size; simp; omega
      intro v2 w2 hown hg hat
      obtain ⟨A2, cap2, rfl⟩ := owns_slice hown
      have HO2 : Hid (w2.ownsRow w.heap.size 3 1 (.slice A2 (k + 1) cap2) (k + 1) (intC ((digL s.data.toList).take (k + 1)))) := by
        show World.ownsRow _ _ _ _ _ _ _
        rw [HT.out]
        have := hown
        simpa [intC] using this
      have HB2 := Lib.hid (app_below2 HB.out hg (own_base HO.out))
      clear hown hg hat HO
      go_wp2
      exact ⟨⟨k + 1, by omega, by go_num, ⟨_, _, rfl⟩, HO2.out, HB2.out⟩, by simp [intOf]; omega⟩
    · obtain rfl : k = n := by omega
      have hge : ¬ (0 : Int) ≤ (k : Int) - 1 - k := by omega
      have HE : Hid ((digL s.data.toList).take k = digL s.data.toList) := by
        show _ = _
        have e := HN.out
        exact List.take_of_length_le (by rw [digL_length, size_eq, e]; exact Nat.le_refl _)
      rw [HE.out] at HO
      go_wp2
      go_ret
      exact ⟨_, _, rfl, HO.out, HB.out⟩
end Go.Proofs.YtoolanjbmbcaiaaGreatDoor
namespace Go.Proofs.YtoolanjbmbcaiaaGreatDoor
open Go.RowKit Bf

theorem reads_one_v (w : World) (v : Value) (t : TypeId) : Reads (w.alloc (.cells #[v] t)) (w.heap.size + 1) 1 (some ⟨w.heap.size, 0, none⟩) 1 [v] := by
  refine ⟨rfl, fun _ => ⟨_, rfl, Nat.lt_succ_self _, fun j u hu => ?_⟩⟩
  cases j with
  | zero =>
    simp at hu
    subst hu
    simp [Addr.add, go_sem]
  | succ j => simp at hu
theorem conv_own {w : World} {B L cap : Nat} {A : Option Addr} {V : Nat} (h : w.ownsRow B 5 1 (.slice A L cap) L ((benc V).map byteV)) (hL : (benc V).length = L) : (convert 130 9 (.slice A L cap)).run Tryz.prog w = .ok (.string (bs V)) w := by
  rcases h.2 with ⟨e, h0⟩ | ⟨g, cap', cur, e, h1, h2, h3, h4, h5, h6⟩
  · cases e
    have : benc V = [] := List.length_eq_zero_iff.1 (hL.trans h0)
    have hb : bs V = ⟨#[]⟩ := by unfold bs; rw [this]
    rw [hb]
    rw [run_convert_bytes_string w 130 9 5 none 0 0 Tryz.underlying130 Tryz.underlying5 Tryz.underlying9]
    rfl
  · cases e
    have := run_convert_bytes_back (P := Tryz.prog) w 130 9 5 ⟨g, 0, none⟩ cap (benc V) Tryz.underlying130 Tryz.underlying5 Tryz.underlying9 (by
      intro j hj
      have := h.cells (g := g) rfl j (byteV (benc V)[j]) (by simp [hj])
      exact this)
    rw [hL] at this
    exact this

set_option maxRecDepth 100000 in
set_option maxHeartbeats 2000000 in
theorem number_any (A : Option Addr) (n cap : Nat) (c : List Int) (w : World) (h : IntsV w (.slice A n cap) c) (hn : c.length = n) (hs : n ≤ 2199023255552) (hd : Dig c) :
    Calls Tryz.prog 80 #[.slice A n cap] w (Ret w (.string (bs (dval c).toNat))) := by
  obtain ⟨i0, hi0, hz0, hz1, hz2⟩ := info_parts u8_info
  have H := Lib.hid h
  have HN := Lib.hid hn
  have HD := Lib.hid hd
  clear h hn hd
  go_enter Tryz.func80, Tryz.ntmps80
  go_wp2
  go_loop [3] (fun v => ∃ k : Nat, k ≤ n ∧ v = .int .i64 k ∧ Hid (dval (c.drop k) = 0)) (fun v => (intOf v).toNat)
  case atStart => exact ⟨n, Nat.le_refl _, rfl, by show _ = _; rw [List.drop_of_length_le (by rw [HN.out]; exact Nat.le_refl _)]; rfl⟩
  case round =>
    obtain ⟨k, hk, rfl, HK⟩ := hrel
    by_cases h0 : 0 < k
    · obtain ⟨z, hz⟩ : ∃ z, c[k - 1]? = some z := ⟨c[k - 1]'(by have := HN.out; omega), List.getElem?_eq_getElem (by have := HN.out; omega)⟩
      obtain ⟨b, off, rfl, hlb, hcell⟩ := IntsV.nth H.out hz
      by_cases hz0' : z = 0
      · have t1 : (z == 0) = true := by simp [hz0']
        have HK' : Hid (dval (c.drop (k - 1)) = 0) := by
          show _ = _
          rw [dval_drop hz, show k - 1 + 1 = k by omega, HK.out, hz0']; rfl
        clear hz hz0'
        go_wp2
        exact ⟨⟨k - 1, by omega, by go_num, HK'⟩, by simp [intOf]; omega⟩
      · have t1 : (z == 0) = false := by simp [hz0']
        have HT : Hid (k = 0 ∨ ∃ z, c[k - 1]? = some z ∧ z ≠ 0) := .inr ⟨z, hz, hz0'⟩
        clear hz hz0'
        go_wp2
        go_loopw [4, 5] (fun b i wr => ∃ m : Nat, m ≤ k ∧ i = .int .i64 ((m : Int) - 1) ∧ (∃ A2 cap2 L, b = .slice A2 L cap2 ∧ Hid ((benc (dval (c.drop m)).toNat).length = L) ∧ wr.ownsRow w.heap.size 5 1 b L ((benc (dval (c.drop m)).toNat).map byteV)) ∧ Hid (m = k ∨ dval (c.drop m) ≠ 0) ∧ Below w.heap.size w wr) (fun _ i _ => (intOf i + 1).toNat)
        case atStart =>
          refine ⟨k, Nat.le_refl _, rfl, ⟨_, _, 0, rfl, ?_, ?_⟩, .inl rfl, (Below.refl _ _).alloc (Nat.le_refl _) _⟩
          · show _ = _
            rw [HK.out]; rfl
          · rw [HK.out]; exact own_empty _ _
        case round =>
          obtain ⟨m, hm, rfl, ⟨A2, cap2, L, rfl, HL, hown⟩, HM, hb⟩ := hrel
          have HO := Lib.hid hown
          have HB := Lib.hid hb
          clear hown hb
          by_cases hm0 : 0 < m
          · obtain ⟨z, hz⟩ : ∃ z, c[m - 1]? = some z := ⟨c[m - 1]'(by have := HN.out; omega), List.getElem?_eq_getElem (by have := HN.out; omega)⟩
            obtain ⟨b, off, hA, hlb, hc⟩ := IntsV.nth H.out hz
            cases hA
            have hcell := (HB.out.cell (p := ⟨b, _, none⟩) hlb).trans hc
            obtain ⟨z0, z1⟩ := HD.out z (List.mem_of_getElem? hz)
            have hw8 : IntKind.u8.wrap z = z := by rw [IntKind.wrap_u8]; omega
            have em : m - 1 + 1 = m := by omega
            have HE : Hid (benc (dval (c.drop (m - 1))).toNat = benc (dval (c.drop m)).toNat ++ [UInt8.ofNat z.toNat] ∧ dval (c.drop (m - 1)) ≠ 0) := by
              have hne : dval (c.drop m) ≠ 0 ∨ z ≠ 0 := by
                rcases HM.out with e | e
                · subst e
                  rcases HT.out with e | ⟨z', e, h⟩
                  · omega
                  · rw [hz] at e; cases e; exact .inr h
                · exact .inl e
              have h1 := benc_dig (i := m - 1) HD.out hz (by rw [em]; exact hne)
              rw [em] at h1
              refine ⟨h1, ?_⟩
              have h2 := dval_drop hz
              rw [em] at h2
              have h3 := (HD.out.drop m).bounds
              omega
            have HLL : Hid (L ≤ n) := by
              show _ ≤ _
              rw [← HL.out, benc_length_le]
              have h3 := (HD.out.drop m).bounds
              have h4 : (c.drop m).length ≤ n := by have := HN.out; simp; omega
              have h5 : (256 : Int) ^ (c.drop m).length ≤ 256 ^ n := by
                have := Nat.pow_le_pow_right (n := 256) (by omega) h4
                exact_mod_cast this
              have : ((dval (c.drop m)).toNat : Int) < ((256 ^ n : Nat) : Int) := by
                have h6 : ((256 ^ n : Nat) : Int) = (256 : Int) ^ n := by simp
                omega
              omega
            have hL := HLL.out
            have hby : byteV (UInt8.ofNat z.toNat) = .int .u8 z := by
              unfold byteV
              rw [UInt8.toNat_ofNat']
              congr 1; omega
            have HBY := Lib.hid hby
            clear hby hc hz em
            go_wp2_with (at_builtin; refine wpList_append_any _ rfl _ _ _ rfl w.heap.size 5 i0 _ 1 1 Tryz.underlying130 hi0 hz0 hz1 hz2 rfl (by omega) (.slice A2 L cap2) L ((benc (dval (c.drop m)).toNat).map byteV) rfl ?_ (wr.heap.size + 1) (some ⟨wr.heap.size, 0, none⟩) 1 1 [.int .u8 z] rfl ?_ ?_ ?_ ?_ ?_ ?_)
            · exact own_alloc HO.out _
            · exact reads_one_v _ _ _
            · intro u hu; simp at hu; subst hu; rfl
            · simp only [maxLen]; omega
            · omega
            · have := HB.out.size; simp; omega
            intro v2 w2 hown hg hat
            obtain ⟨A3, cap3, rfl⟩ := owns_slice hown
            have HO2 : Hid (w2.ownsRow w.heap.size 5 1 (.slice A3 (L + 1) cap3) (L + 1) ((benc (dval (c.drop (m - 1))).toNat).map byteV)) := by
              show World.ownsRow _ _ _ _ _ _ _
              rw [HE.out.1, List.map_append, List.map_cons, List.map_nil, HBY.out]
              exact hown
            have HB2 := Lib.hid (app_below2 HB.out hg (own_base HO.out))
            clear hown hg hat HO
            go_wp2
            refine ⟨⟨m - 1, by omega, by go_num, ⟨_, _, _, rfl, ?_, HO2.out⟩, .inr HE.out.2, HB2.out⟩, by simp [intOf]; omega⟩
            show _ = _
            rw [HE.out.1, List.length_append, HL.out]; rfl
          · obtain rfl : m = 0 := by omega
            have e0 : c.drop 0 = c := rfl
            rw [e0] at HO HL
            have hcv : (convert 130 9 (.slice A2 L cap2)).run Tryz.prog wr = .ok (.string (bs (dval c).toNat)) wr := conv_own HO.out HL.out
            have hge : ¬ (0 : Int) ≤ ((0 : Nat) : Int) - 1 := by omega
            clear e0 HM
            go_wp2
            go_ret
            exact ⟨rfl, HB.out⟩
    · obtain rfl : k = 0 := by omega
      have HT : Hid ((0 : Nat) = 0 ∨ ∃ z, c[0 - 1]? = some z ∧ z ≠ 0) := .inl rfl
      clear HT
      go_wp2
      go_loopw [4, 5] (fun b i wr => i = .int .i64 (-1) ∧ (∃ g cap2, b = .slice (some ⟨g, 0, none⟩) 0 cap2) ∧ Below w.heap.size w wr) (fun _ _ _ => 0)
      case atStart => exact ⟨rfl, ⟨_, _, rfl⟩, (Below.refl _ _).alloc (Nat.le_refl _) _⟩
      case round =>
        obtain ⟨rfl, ⟨g, cap2, rfl⟩, hb⟩ := hrel
        have HB := Lib.hid hb
        have HE : Hid (bs (dval c).toNat = ⟨#[]⟩) := by
          show _ = _
          have := HK.out
          rw [List.drop_zero] at this
          rw [this]; rfl
        have hcv := run_convert_bytes_back (P := Tryz.prog) wr 130 9 5 ⟨g, 0, none⟩ cap2 [] Tryz.underlying130 Tryz.underlying5 Tryz.underlying9 (by intro j hj; simp at hj)
        simp only [List.length_nil] at hcv
        clear hb HK
        go_wp2
        go_ret
        exact ⟨by rw [HE.out]; rfl, HB.out⟩
end Go.Proofs.YtoolanjbmbcaiaaGreatDoor
namespace Go.Proofs.YtoolanjbmbcaiaaGreatDoor
open Go.RowKit Bf

set_option maxRecDepth 100000 in
set_option maxHeartbeats 2000000 in
theorem carry_any (A : Option Addr) (n cap : Nat) (c : List Int) (w : World) (h : IntsV w (.slice A n cap) c) (hn : c.length = n) (hs : n ≤ 1000000) (hbd : ∀ d ∈ c, -1099511627776 ≤ d ∧ d ≤ 1099511627776) (hV : 0 ≤ dval c) :
    Calls Tryz.prog 81 #[.slice A n cap] w fun e w' => ∃ A' m cap' out, e = .returned (.slice A' m cap') ∧ m ≤ 2199023255552 ∧ out.length = m ∧ w'.ownsRow w.heap.size 3 1 (.slice A' m cap') m (intC out) ∧ Dig out ∧ dval out = dval c ∧ Below w.heap.size w w' := by
  obtain ⟨i0, hi0, hz0, hz1, hz2⟩ := info_parts i64_info
  have H := Lib.hid h
  have HN := Lib.hid hn
  have HD := Lib.hid hbd
  have HV := Lib.hid hV
  clear h hn hbd hV
  go_enter Tryz.func81, Tryz.ntmps81
  go_wp2
  go_loopw [3, 4, 5] (fun l ov i wr => ∃ (k : Nat) (o : Int) (ol : List Int), i = .int .i64 k ∧ ov = .int .i64 o ∧ (∃ A2 cap2, l = .slice A2 k cap2) ∧ wr.ownsRow w.heap.size 3 1 l k (intC ol) ∧ Hid (ol.length = k ∧ Dig ol ∧ dval ol + 256 ^ k * o = dval (c.take k)) ∧ -1099511627776 ≤ o ∧ o ≤ 1099511627776 ∧ (k : Int) ≤ n + 1099511627776 ∧ (k : Int) + o ≤ n + 1099511627776 ∧ Below w.heap.size w wr) (fun _ ov i _ => (n - (intOf i).toNat) * 4398046511104 + (intOf ov).toNat)
  case atStart =>
    refine ⟨0, 0, [], rfl, rfl, ⟨_, _, rfl⟩, own_empty _ _, ⟨rfl, fun d hd => by simp at hd, by simp [dval]⟩, by omega, by omega, by omega, by omega, (Below.refl _ _).alloc (Nat.le_refl _) _⟩
  case round =>
    obtain ⟨k, o, ol, rfl, rfl, ⟨A2, cap2, rfl⟩, hown, HL, o1, o2, o3, o4, hb⟩ := hrel
    have HO := Lib.hid hown
    have HB := Lib.hid hb
    clear hown hb
    by_cases hlt : k < n
    · obtain ⟨z, hz⟩ : ∃ z, c[k]? = some z := ⟨c[k]'(by have := HN.out; omega), List.getElem?_eq_getElem (by have := HN.out; omega)⟩
      obtain ⟨b, off, rfl, hlb, hc⟩ := IntsV.nth H.out hz
      have hcell := (HB.out.cell (p := ⟨b, _, none⟩) hlb).trans hc
      obtain ⟨b1, b2⟩ := HD.out z (List.mem_of_getElem? hz)
      have HTK : Hid (dval (c.take (k + 1)) = dval (c.take k) + 256 ^ k * z) := dval_take hz
      have hk0 : (0 : Int) ≤ (k : Int) := by omega
      have hk1 : (k : Int) < (n : Int) := by omega
      have yw : IntKind.i64.wrap (o + z) = o + z := by rw [IntKind.wrap_i64]; omega
      clear hz hc
      go_wp2
      go_loop [4, 6] (fun ov d => ∃ x y : Int, d = .int .i64 x ∧ ov = .int .i64 y ∧ x + 256 * y = (o + z) ∧ y ≤ 0 ∧ (y = 0 ∨ x < 256)) (fun _ d => (-(intOf d)).toNat)
      case atStart => exact ⟨(o + z), 0, rfl, rfl, by omega, by omega, .inl rfl⟩
      case round =>
        obtain ⟨x, y, rfl, rfl, e1, e2, e3⟩ := hrel
        by_cases hx : x < 0
        · have y1 : IntKind.i64.wrap (x + 256) = x + 256 := by rw [IntKind.wrap_i64]; omega
          have y2 : IntKind.i64.wrap (y - 1) = y - 1 := by rw [IntKind.wrap_i64]; omega
          go_wp2
          exact ⟨⟨x + 256, y - 1, rfl, rfl, by omega, by omega, .inr (by omega)⟩, by simp [intOf]; omega⟩
        · have hq : Int.tdiv x 256 = x / 256 := Int.tdiv_eq_ediv_of_nonneg (by omega)
          have hr : Int.tmod x 256 = x % 256 := Int.tmod_eq_emod_of_nonneg (by omega)
          have y1 : IntKind.i64.wrap (y + x / 256) = y + x / 256 := by rw [IntKind.wrap_i64]; omega
          have y2 : IntKind.i64.wrap (x / 256) = x / 256 := by rw [IntKind.wrap_i64]; omega
          have y3 : IntKind.i64.wrap (x % 256) = x % 256 := by rw [IntKind.wrap_i64]; omega
          go_wp2_with (at_builtin; refine wpList_append_any _ rfl _ _ _ rfl w.heap.size 3 i0 _ 1 8 Tryz.underlying23 hi0 hz0 hz1 hz2 rfl (by omega) (.slice A2 k cap2) k (intC ol) rfl ?_ (wr.heap.size + 1) (some ⟨wr.heap.size, 0, none⟩) 1 1 (intC [(x % 256)]) rfl ?_ ?_ ?_ ?_ ?_ ?_)
          · exact own_alloc HO.out _
          · exact reads_one _ _ _
          · exact intC_one _
          · simp only [maxLen]; omega
          · omega
          · have := HB.out.size; simp; omega
          intro v2 w2 hown hg hat
          obtain ⟨A3, cap3, rfl⟩ := owns_slice hown
          have HO2 : Hid (w2.ownsRow w.heap.size 3 1 (.slice A3 (k + 1) cap3) (k + 1) (intC (ol ++ [x % 256]))) := by
            show World.ownsRow _ _ _ _ _ _ _
            have := hown
            simpa [intC] using this
          have HB2 := Lib.hid (app_below2 HB.out hg (own_base HO.out))
          have HS : Hid ((ol ++ [x % 256]).length = k + 1 ∧ Dig (ol ++ [x % 256]) ∧ dval (ol ++ [x % 256]) + 256 ^ (k + 1) * (y + x / 256) = dval (c.take (k + 1))) := by
            obtain ⟨s1, s2, s3⟩ := HL.out
            refine ⟨by simp [s1], s2.snoc (by omega) (by omega), ?_⟩
            rw [dval_snoc, s1, HTK.out]
            exact carry_step s3 (by omega)
          clear hown hg hat HO
          go_wp2
          refine ⟨⟨k + 1, y + x / 256, ol ++ [x % 256], by go_num, by go_num, ⟨_, _, rfl⟩, HO2.out, HS, by omega, by omega, by omega, by omega, HB2.out⟩, ?_⟩
          simp [intOf]; omega
    · have hi1 : ¬ (k : Int) < (n : Int) := by omega
      by_cases ho : 0 < o
      · have HTK : Hid (dval (c.take (k + 1)) = dval (c.take k) + 256 ^ k * 0) := by
          show _ = _
          have e := HN.out
          rw [dval_take_ge (by omega), dval_take_ge (by omega)]; omega
        go_wp2
        go_loop [4, 6] (fun ov d => ∃ x y : Int, d = .int .i64 x ∧ ov = .int .i64 y ∧ x + 256 * y = o ∧ y ≤ 0 ∧ (y = 0 ∨ x < 256)) (fun _ d => (-(intOf d)).toNat)
        case atStart => exact ⟨o, 0, rfl, rfl, by omega, by omega, .inl rfl⟩
        case round =>
          obtain ⟨x, y, rfl, rfl, e1, e2, e3⟩ := hrel
          by_cases hx : x < 0
          · have y1 : IntKind.i64.wrap (x + 256) = x + 256 := by rw [IntKind.wrap_i64]; omega
            have y2 : IntKind.i64.wrap (y - 1) = y - 1 := by rw [IntKind.wrap_i64]; omega
            go_wp2
            exact ⟨⟨x + 256, y - 1, rfl, rfl, by omega, by omega, .inr (by omega)⟩, by simp [intOf]; omega⟩
          · have hq : Int.tdiv x 256 = x / 256 := Int.tdiv_eq_ediv_of_nonneg (by omega)
            have hr : Int.tmod x 256 = x % 256 := Int.tmod_eq_emod_of_nonneg (by omega)
            have y1 : IntKind.i64.wrap (y + x / 256) = y + x / 256 := by rw [IntKind.wrap_i64]; omega
            have y2 : IntKind.i64.wrap (x / 256) = x / 256 := by rw [IntKind.wrap_i64]; omega
            have y3 : IntKind.i64.wrap (x % 256) = x % 256 := by rw [IntKind.wrap_i64]; omega
            go_wp2_with (at_builtin; refine wpList_append_any _ rfl _ _ _ rfl w.heap.size 3 i0 _ 1 8 Tryz.underlying23 hi0 hz0 hz1 hz2 rfl (by omega) (.slice A2 k cap2) k (intC ol) rfl ?_ (wr.heap.size + 1) (some ⟨wr.heap.size, 0, none⟩) 1 1 (intC [(x % 256)]) rfl ?_ ?_ ?_ ?_ ?_ ?_)
            · exact own_alloc HO.out _
            · exact reads_one _ _ _
            · exact intC_one _
            · simp only [maxLen]; omega
            · omega
            · have := HB.out.size; simp; omega
            intro v2 w2 hown hg hat
            obtain ⟨A3, cap3, rfl⟩ := owns_slice hown
            have HO2 : Hid (w2.ownsRow w.heap.size 3 1 (.slice A3 (k + 1) cap3) (k + 1) (intC (ol ++ [x % 256]))) := by
              show World.ownsRow _ _ _ _ _ _ _
              have := hown
              simpa [intC] using this
            have HB2 := Lib.hid (app_below2 HB.out hg (own_base HO.out))
            have HS : Hid ((ol ++ [x % 256]).length = k + 1 ∧ Dig (ol ++ [x % 256]) ∧ dval (ol ++ [x % 256]) + 256 ^ (k + 1) * (y + x / 256) = dval (c.take (k + 1))) := by
              obtain ⟨s1, s2, s3⟩ := HL.out
              refine ⟨by simp [s1], s2.snoc (by omega) (by omega), ?_⟩
              rw [dval_snoc, s1, HTK.out]
              exact carry_step (x := 0) s3 (by omega)
            clear hown hg hat HO
            go_wp2
            refine ⟨⟨k + 1, y + x / 256, ol ++ [x % 256], by go_num, by go_num, ⟨_, _, rfl⟩, HO2.out, HS, by omega, by omega, by omega, by omega, HB2.out⟩, ?_⟩
            simp [intOf]; omega
      · go_wp2
        go_ret
        obtain ⟨s1, s2, s3⟩ := HL.out
        refine ⟨A2, k, cap2, rfl, by omega, ol, s1, HO.out, s2, ?_, HB.out⟩
        have e := HN.out
        rw [dval_take_ge (by omega)] at s3
        have hb := s2.bounds
        rw [s1] at hb
        exact carry_end s3 hb.1 hb.2 HV.out (by omega)
end Go.Proofs.YtoolanjbmbcaiaaGreatDoor
namespace Go.Proofs.YtoolanjbmbcaiaaGreatDoor
open Go.RowKit Bf

theorem take_snoc_eq {a b : List UInt8} {k : Nat} (h : a.take k = b.take k) (ha : k < a.length) (hb : k < b.length) (e : a[k] = b[k]) : a.take (k + 1) = b.take (k + 1) := by
  rw [List.take_add_one, List.take_add_one, h, List.getElem?_eq_getElem ha, List.getElem?_eq_getElem hb, e]

set_option maxRecDepth 100000 in
set_option maxHeartbeats 2000000 in
theorem less_any (a b : ByteArray) (w : World) (ha : Nat' a) (hb : Nat' b) (la : a.size ≤ 65536) (_lb : b.size ≤ 65536) :
    Calls Tryz.prog 102 #[.string a, .string b] w (Ret w (.bool (decide (bv a < bv b)))) := by
  by_cases hl : a.size = b.size
  rotate_left
  · have hv : decide (bv a < bv b) = decide (a.size < b.size) := by
      rw [Bool.eq_iff_iff]
      simp only [decide_eq_true_eq]
      constructor
      · intro h
        rcases Nat.lt_or_ge a.size b.size with h1 | h1
        · omega
        · have := bval_lt_len (a := b.data.toList) ha (by rw [size_eq, size_eq]; omega)
          unfold bv at h
          omega
      · intro h
        exact bval_lt_len hb (by rw [size_eq, size_eq]; omega)
    have HV := Lib.hid hv
    have t1 : ((a.size : Int) != (b.size : Int)) = true := by rw [bne_iff_ne]; omega
    clear hv ha hb
    go_enter Tryz.func102, Tryz.ntmps102
    go_wp2
    go_ret
    exact ⟨by rw [HV.out]; rfl, Below.refl _ _⟩
  · obtain ⟨n, hn⟩ : ∃ n, a.size = n := ⟨_, rfl⟩
    have hn' : b.size = n := hl.symm.trans hn
    have HN := Lib.hid hn
    have HN' := Lib.hid hn'
    have hA : (a.size : Int) = (n : Int) := by rw [hn]
    have hB : (b.size : Int) = (n : Int) := by rw [hn']
    have lN : n ≤ 65536 := by omega
    clear hl hn hn' ha hb la _lb
    go_enter Tryz.func102, Tryz.ntmps102
    go_wp2
    go_loopw [5] (fun i wr => ∃ k : Nat, k ≤ n ∧ i = .int .i64 k ∧ Hid (a.data.toList.take k = b.data.toList.take k) ∧ ∃ q, wr = w.drewN q) (fun i _ => n - (intOf i).toNat)
    case atStart => exact ⟨0, Nat.zero_le _, rfl, rfl, 0, rfl⟩
    case round =>
      obtain ⟨k, hk, rfl, HE, q, rfl⟩ := hrel
      by_cases hlt : k < n
      · have xa : k < a.size := by have := HN.out; omega
        have xb : k < b.size := by have := HN'.out; omega
        have hidx := run_index_str (P := Tryz.prog) Tryz.underlying9 a k (k : Int) rfl xa
        have hidx' := run_index_str (P := Tryz.prog) Tryz.underlying9 b k (k : Int) rfl xb
        have HS : Hid (a[k]'xa = b[k]'xb → a.data.toList.take (k + 1) = b.data.toList.take (k + 1)) := fun e => take_snoc_eq HE.out (by rw [size_eq]; exact xa) (by rw [size_eq]; exact xb) e
        have HL : Hid ((a[k]'xa).toNat < (b[k]'xb).toNat → bv a < bv b) := fun e => bval_lt_of (by rw [size_eq, size_eq, HN.out, HN'.out]) (by rw [size_eq]; exact xa) HE.out e
        have HG : Hid ((b[k]'xb).toNat < (a[k]'xa).toNat → bv b < bv a) := fun e => bval_lt_of (by rw [size_eq, size_eq, HN.out, HN'.out]) (by rw [size_eq]; exact xb) HE.out.symm e
        by_cases he : a[k]'xa = b[k]'xb
        · have HS' := Lib.hid (HS.out he)
          rw [he] at hidx
          generalize (b[k]'xb).toNat = y at *
          clear he HS HL HG
          go_wp2
          go_quiet (fail)
          go_wp2
          exact ⟨⟨k + 1, by omega, by go_num, HS', _, rfl⟩, by simp [intOf]; omega⟩
        · have hne : (a[k]'xa).toNat ≠ (b[k]'xb).toNat := fun e => he (UInt8.toNat_inj.1 e)
          have hv : decide (bv a < bv b) = decide ((a[k]'xa).toNat < (b[k]'xb).toNat) := by
            rw [Bool.eq_iff_iff]
            simp only [decide_eq_true_eq]
            constructor
            · intro h
              rcases Nat.lt_or_ge (a[k]'xa).toNat (b[k]'xb).toNat with h1 | h1
              · omega
              · have := HG.out (by omega)
                omega
            · intro h; exact HL.out (by omega)
          have HV := Lib.hid hv
          clear hv
          generalize (a[k]'xa).toNat = x at *
          generalize (b[k]'xb).toNat = y at *
          have t1 : ((x : Int) != (y : Int)) = true := by rw [bne_iff_ne]; omega
          clear he HS HL HG
          go_wp2
          go_quiet (fail)
          go_wp2
          go_quiet (fail)
          go_wp2
          go_ret
          exact ⟨by rw [HV.out]; rfl, ⟨rfl, rfl, rfl, Nat.le_refl _, fun _ _ => rfl⟩⟩
      · obtain rfl : k = n := by omega
        have hv : decide (bv a < bv b) = false := by
          have e : a.data.toList = b.data.toList := by
            have := HE.out
            rwa [List.take_of_length_le (by rw [size_eq, HN.out]; exact Nat.le_refl _), List.take_of_length_le (by rw [size_eq, HN'.out]; exact Nat.le_refl _)] at this
          have : bv a = bv b := by unfold bv; rw [e]
          simp [this]
        have HV := Lib.hid hv
        clear hv
        go_wp2
        go_ret
        exact ⟨by rw [HV.out]; rfl, ⟨rfl, rfl, rfl, Nat.le_refl _, fun _ _ => rfl⟩⟩
end Go.Proofs.YtoolanjbmbcaiaaGreatDoor
namespace Go.Proofs.YtoolanjbmbcaiaaGreatDoor
open Go.RowKit Bf

theorem dval_take_getD (x : List Int) (k : Nat) : dval (x.take (k + 1)) = dval (x.take k) + 256 ^ k * x.getD k 0 := by
  rcases Nat.lt_or_ge k x.length with h | h
  · rw [dval_take (List.getElem?_eq_getElem h)]
    simp [List.getD, List.getElem?_eq_getElem h]
  · rw [dval_take_ge (by omega), dval_take_ge h]
    simp [List.getD, List.getElem?_eq_none h]
/-- Digits less digits. -/
def diffL (x y : List Int) (k : Nat) : List Int := (List.range k).map fun j => x.getD j 0 - y.getD j 0
theorem diffL_succ (x y : List Int) (k : Nat) : diffL x y (k + 1) = diffL x y k ++ [x.getD k 0 - y.getD k 0] := by simp [diffL, List.range_succ]
theorem diffL_length (x y : List Int) (k : Nat) : (diffL x y k).length = k := by simp [diffL]
theorem dval_diffL (x y : List Int) : ∀ k, dval (diffL x y k) = dval (x.take k) - dval (y.take k)
  | 0 => by simp [diffL, dval]
  | k + 1 => by
    rw [diffL_succ, dval_snoc, dval_diffL x y k, diffL_length, dval_take_getD, dval_take_getD]
    grind
theorem dig_getD {x : List Int} (h : Dig x) (k : Nat) : 0 ≤ x.getD k 0 ∧ x.getD k 0 ≤ 255 := by
  rcases Nat.lt_or_ge k x.length with hk | hk
  · have : x.getD k 0 = x[k] := by simp [List.getD, List.getElem?_eq_getElem hk]
    rw [this]; exact h _ (List.getElem_mem hk)
  · have : x.getD k 0 = 0 := by simp [List.getD, List.getElem?_eq_none hk]
    rw [this]; omega
theorem diffL_bounds {x y : List Int} (hx : Dig x) (hy : Dig y) (k : Nat) : ∀ d ∈ diffL x y k, -1099511627776 ≤ d ∧ d ≤ 1099511627776 := by
  intro d hd
  simp only [diffL, List.mem_map] at hd
  obtain ⟨j, _, rfl⟩ := hd
  have h1 := dig_getD hx j
  have h2 := dig_getD hy j
  omega
theorem IntsV.of_own' {w : World} {B n : Nat} {v : Value} {c : List Int} (h : w.ownsRow B 3 1 v n (intC c)) (hn : c.length = n) : IntsV w v c := by
  subst hn; exact IntsV.of_own h

set_option maxRecDepth 100000 in
set_option maxHeartbeats 2000000 in
theorem minus_any (a b : ByteArray) (w : World) (hb : Nat' b) (la : a.size ≤ 65536) (lb : b.size ≤ 65536) (hle : bv b ≤ bv a) :
    Calls Tryz.prog 103 #[.string a, .string b] w (Ret w (.string (bs (bv a - bv b)))) := by
  obtain ⟨i0, hi0, hz0, hz1, hz2⟩ := info_parts i64_info
  obtain ⟨n, hn⟩ : ∃ n, a.size = n := ⟨_, rfl⟩
  obtain ⟨m, hm⟩ : ∃ m, b.size = m := ⟨_, rfl⟩
  have hmn : m ≤ n := by
    rcases Nat.lt_or_ge n m with h | h
    · have := bval_lt_len (a := a.data.toList) hb (by rw [size_eq, size_eq]; omega)
      unfold bv at hle
      omega
    · exact h
  have HN := Lib.hid hn
  have HM := Lib.hid hm
  have HX := Lib.hid (fun W => digits_any a n W hn (by omega))
  have HY := Lib.hid (fun W => digits_any b m W hm (by omega))
  have HLE := Lib.hid hle
  have lN : n ≤ 65536 := by omega
  clear hn hm hle hb la lb
  go_enter Tryz.func103, Tryz.ntmps103
  go_wp2_with fail
  refine (HX.out _).mono ?_
  rintro e w1 ⟨A1, c1, rfl, hx, hb1⟩
  have X1 := Lib.hid (IntsV.of_own' hx (by rw [digL_length, size_eq, HN.out]))
  have B1 := Lib.hid hb1
  clear hx hb1
  go_wp2_with fail
  refine (HY.out _).mono ?_
  rintro e w2 ⟨A2, c2, rfl, hy, hb2⟩
  have X2 := Lib.hid (X1.out.below hb2)
  have Y2 := Lib.hid (IntsV.of_own' hy (by rw [digL_length, size_eq, HM.out]))
  have B2 := Lib.hid (B1.out.trans (hb2.mono B1.out.size))
  clear hy hb2 X1 B1
  go_wp2
  go_loopw [7, 8] (fun l i wr => ∃ k : Nat, k ≤ n ∧ i = .int .i64 k ∧ (∃ A3 c3, l = .slice A3 k c3) ∧ wr.ownsRow w2.heap.size 3 1 l k (intC (diffL (digL a.data.toList) (digL b.data.toList) k)) ∧ Below w2.heap.size w2 wr) (fun _ i _ => n - (intOf i).toNat)
  case atStart => exact ⟨0, Nat.zero_le _, rfl, ⟨_, _, rfl⟩, own_empty _ _, (Below.refl _ _).alloc (Nat.le_refl _) _⟩
  case round =>
    obtain ⟨k, hk, rfl, ⟨A3, c3, rfl⟩, hown, hb⟩ := hrel
    have HO := Lib.hid hown
    have HB := Lib.hid hb
    have X3 := Lib.hid (X2.out.below hb)
    have Y3 := Lib.hid (Y2.out.below hb)
    clear hown hb
    by_cases hlt : k < n
    · have HA1 := Lib.hid (fun W h => at_any A1 n c1 k (digL a.data.toList) W h (by rw [digL_length, size_eq, HN.out]))
      have HA2 := Lib.hid (fun W h => at_any A2 m c2 k (digL b.data.toList) W h (by rw [digL_length, size_eq, HM.out]))
      have HS := Lib.hid (diffL_succ (digL a.data.toList) (digL b.data.toList) k)
      have b1 := dig_getD (digL_dig a.data.toList) k
      have b2 := dig_getD (digL_dig b.data.toList) k
      generalize (digL a.data.toList).getD k 0 = p at *
      generalize (digL b.data.toList).getD k 0 = q at *
      have yw : IntKind.i64.wrap (p - q) = p - q := by rw [IntKind.wrap_i64]; omega
      go_wp2_with fail
      refine (HA1.out _ X3.out).mono ?_
      rintro e w4 ⟨rfl, rfl⟩
      go_wp2_with fail
      refine (HA2.out _ Y3.out).mono ?_
      rintro e w4 ⟨rfl, rfl⟩
      go_wp2_with (at_builtin; refine wpList_append_any _ rfl _ _ _ rfl w2.heap.size 3 i0 _ 1 8 Tryz.underlying23 hi0 hz0 hz1 hz2 rfl (by omega) (.slice A3 k c3) k (intC (diffL (digL a.data.toList) (digL b.data.toList) k)) rfl ?_ (wr.heap.size + 1) (some ⟨wr.heap.size, 0, none⟩) 1 1 (intC [(p - q)]) rfl ?_ ?_ ?_ ?_ ?_ ?_)
      · exact own_alloc HO.out _
      · exact reads_one _ _ _
      · exact intC_one _
      · simp only [maxLen]; omega
      · omega
      · have := HB.out.size; simp; omega
      intro v5 w5 hown hg hat
      obtain ⟨A5, c5, rfl⟩ := owns_slice hown
      have HO2 : Hid (w5.ownsRow w2.heap.size 3 1 (.slice A5 (k + 1) c5) (k + 1) (intC (diffL (digL a.data.toList) (digL b.data.toList) (k + 1)))) := by
        show World.ownsRow _ _ _ _ _ _ _
        rw [HS.out]
        have := hown
        simpa [intC] using this
      have HB2 := Lib.hid (app_below2 HB.out hg (own_base HO.out))
      clear hown hg hat HO
      go_wp2
      exact ⟨⟨k + 1, by omega, by go_num, ⟨_, _, rfl⟩, HO2.out, HB2.out⟩, by simp [intOf]; omega⟩
    · obtain rfl : k = n := by omega
      have HE : Hid (dval (diffL (digL a.data.toList) (digL b.data.toList) k) = ((bv a - bv b : Nat) : Int)) := by
        show _ = _
        rw [dval_diffL, dval_take_ge (by rw [digL_length, size_eq, HN.out]; exact Nat.le_refl _), dval_take_ge (by rw [digL_length, size_eq, HM.out]; omega), dval_digL, dval_digL]
        have := HLE.out
        unfold bv at *
        omega
      have Z3 := Lib.hid (IntsV.of_own' HO.out (diffL_length _ _ _))
      go_wp2_with fail
      refine (carry_any A3 k c3 _ _ Z3.out (diffL_length _ _ _) (by omega) (diffL_bounds (digL_dig _) (digL_dig _) _) (by rw [HE.out]; omega)).mono ?_
      rintro e w4 ⟨A4, m4, c4, out, rfl, hm4, ho4, hown4, hd4, hv4, hb4⟩
      have B4 := Lib.hid ((B2.out.trans (HB.out.mono B2.out.size)).trans (hb4.mono (B2.out.trans (HB.out.mono B2.out.size)).size))
      have HV4 := Lib.hid (hv4.trans HE.out)
      have Z4 := Lib.hid (IntsV.of_own' hown4 ho4)
      clear hown4 hb4 hv4
      go_wp2_with fail
      refine (number_any A4 m4 c4 out _ Z4.out ho4 hm4 hd4).mono ?_
      rw [HV4.out, Int.toNat_natCast]
      rintro e w5 ⟨rfl, hb5⟩
      have B5 := Lib.hid (B4.out.trans (hb5.mono B4.out.size))
      clear hb5
      go_wp2
      go_ret
      exact ⟨rfl, B5.out⟩
end Go.Proofs.YtoolanjbmbcaiaaGreatDoor
namespace Go.Proofs.YtoolanjbmbcaiaaGreatDoor
open Go.RowKit Bf

/-- A row of ints of the call's own. -/
def IRow (w : World) (b N : Nat) (f : Nat → Int) : Prop := ∃ cur : Array Value, w.heap[b]? = some (.cells cur 3 (0, 0)) ∧ N ≤ cur.size ∧ ∀ i, i < N → cur[i]? = some (.int .i64 (f i))
section
variable {w w' : World} {b N : Nat} {f g : Nat → Int}
theorem IRow.lt (h : IRow w b N f) : b < w.heap.size := by
  obtain ⟨cur, h1, _⟩ := h
  exact (Array.getElem?_eq_some_iff.1 h1).1
theorem IRow.cell (h : IRow w b N f) {i : Nat} (hi : i < N) : w.cell? ⟨b, i, none⟩ = some (.int .i64 (f i)) := by
  obtain ⟨cur, h1, _, h3⟩ := h
  simp [World.cell?, h1, h3 i hi]
theorem IRow.frozen (h : IRow w b N f) (i : Nat) : w.frozen? ⟨b, i, none⟩ = false := by
  obtain ⟨cur, h1, _⟩ := h
  simp [World.frozen?, h1]
theorem IRow.of_block (h : IRow w b N f) (e : w'.heap[b]? = w.heap[b]?) : IRow w' b N f := by
  obtain ⟨cur, h1, h2, h3⟩ := h
  exact ⟨cur, e.trans h1, h2, h3⟩
theorem IRow.below {B : Nat} (h : IRow w b N f) (hb : Below B w w') (hB : b < B) : IRow w' b N f := h.of_block (hb.block b hB)
theorem IRow.set (h : IRow w b N f) (i : Nat) (x : Int) : IRow (w.setCell ⟨b, i, none⟩ (.int .i64 x)) b N (fun j => if j = i then x else f j) := by
  obtain ⟨cur, h1, h2, h3⟩ := h
  refine ⟨cur.setIfInBounds i (.int .i64 x), ?_, by simpa using h2, fun j hj => ?_⟩
  · simp [World.setCell, Array.getElem?_modify, h1]
  · rw [Array.getElem?_setIfInBounds]
    by_cases e : i = j
    · subst e; simp; omega
    · have e' : ¬ j = i := fun h => e h.symm
      simp [e, e', h3 j hj]
theorem IRow.new (w : World) (N : Nat) : IRow (w.alloc (.cells (madeCells #[.int .i64 0] N) 3)) w.heap.size N (fun _ => 0) := by
  refine ⟨_, World.alloc_heap_new w _, by simp [madeCells], fun i hi => ?_⟩
  simp [madeCells, hi, Nat.mod_one]
end
theorem make_i64 (n : Nat) (hn : n ≤ 1048576) (w : World) : (Instr.makeSlice 23 (.int .i64 (n : Int)) (.int .i64 (n : Int))).run Tryz.prog w = .ok (.slice (some ⟨w.heap.size, 0, none⟩) n n) (w.alloc (.cells (madeCells #[.int .i64 0] n) 3)) :=
  run_make_row' 23 3 (.int .i64 0) 8 Tryz.underlying23 i64_info rfl .i64 .i64 n (by omega) (by omega) w
/-- The value of the first N. -/
def vsum (f : Nat → Int) (N : Nat) : Int := dval ((List.range N).map f)
theorem vsum_succ (f : Nat → Int) (N : Nat) : vsum f (N + 1) = vsum f N + 256 ^ N * f N := by
  unfold vsum
  rw [List.range_succ, List.map_append, dval_append]
  simp [dval]
theorem vsum_zero (N : Nat) : vsum (fun _ => 0) N = 0 := by
  induction N with
  | zero => rfl
  | succ N ih => rw [vsum_succ, ih]; simp
theorem vsum_upd (f : Nat → Int) (i : Nat) (x : Int) : ∀ N, vsum (fun j => if j = i then x else f j) N = vsum f N + (if i < N then 256 ^ i * (x - f i) else 0)
  | 0 => by simp [vsum, dval]
  | N + 1 => by
    rw [vsum_succ, vsum_succ, vsum_upd f i x N]
    by_cases e : N = i
    · subst e
      rw [if_pos rfl, if_neg (by omega), if_pos (by omega)]
      grind
    · rw [if_neg e]
      by_cases h : i < N
      · rw [if_pos h, if_pos (by omega)]; omega
      · rw [if_neg h, if_neg (by omega)]; omega
theorem IRow.ints {w : World} {b N : Nat} {f : Nat → Int} (h : IRow w b N f) : IntsV w (.slice (some ⟨b, 0, none⟩) N N) ((List.range N).map f) := by
  refine ⟨some ⟨b, 0, none⟩, N, by simp, by simp, fun i z hz => ⟨b, 0, rfl, h.lt, ?_⟩⟩
  have hi : i < N := by have := (List.getElem?_eq_some_iff.1 hz).1; simpa using this
  rw [Nat.zero_add, h.cell hi]
  simp [hi] at hz
  rw [hz]
theorem short_bs (V : Nat) : (if (bs V).size ≤ 256 then (Value.tuple #[.string (bs V), .int .i64 0]) else .tuple #[.string ⟨#[]⟩, .int .i64 2]) = shortV V := by
  unfold shortV
  have e : (bs V).size ≤ 256 ↔ V < 256 ^ 256 := by rw [bs_size]; exact benc_length_le
  by_cases h : V < 256 ^ 256
  · rw [if_pos h, if_pos (e.2 h)]
  · rw [if_neg h, if_neg (fun x => h (e.1 x))]
theorem shortV_two (V : Nat) : shortV V = .tuple #[.string (bs V), .int .i64 0] ∨ shortV V = .tuple #[.string ⟨#[]⟩, .int .i64 2] := by
  unfold shortV
  split
  · exact .inl rfl
  · exact .inr rfl
/-- What an inner round of the product does. -/
theorem mul_inner {f : Nat → Int} {N i k : Nat} {V p q Y Y' : Int} (hik : i + k < N) (h : vsum f N = V + 256 ^ i * p * Y) (hY : Y' = Y + 256 ^ k * q) :
    vsum (fun j => if j = i + k then f (i + k) + p * q else f j) N = V + 256 ^ i * p * Y' := by
  rw [vsum_upd, if_pos hik, h, hY, Int.pow_add]
  grind

set_option maxRecDepth 100000 in
set_option maxHeartbeats 2000000 in
theorem mul06_any (a b : ByteArray) (w : World) (ha : Short a) (hb : Short b) :
    Calls Tryz.prog 49 #[.string a, .string b] w (Ret w (shortV (bv a * bv b))) := by
  obtain ⟨n, hn⟩ : ∃ n, a.size = n := ⟨_, rfl⟩
  obtain ⟨m, hm⟩ : ∃ m, b.size = m := ⟨_, rfl⟩
  have hnl := ha.2
  have hml := hb.2
  have HBO := Lib.hid (fun W => both_ok a b W ha hb)
  have HN := Lib.hid hn
  have HM := Lib.hid hm
  have HX := Lib.hid (fun W => digits_any a n W hn (by omega))
  have HY := Lib.hid (fun W => digits_any b m W hm (by omega))
  have lN : n ≤ 256 := by omega
  have lM : m ≤ 256 := by omega
  clear hn hm hnl hml ha hb
  obtain ⟨N, hNM⟩ : ∃ N, n + m = N := ⟨_, rfl⟩
  have hmk : ∀ W : World, (Instr.makeSlice 23 (.int .i64 ((n : Int) + (m : Int))) (.int .i64 ((n : Int) + (m : Int)))).run Tryz.prog W = .ok (.slice (some ⟨W.heap.size, 0, none⟩) N N) (W.alloc (.cells (madeCells #[.int .i64 0] N) 3)) := fun W => by
    have := make_i64 N (by omega) W
    have e : (N : Int) = (n : Int) + (m : Int) := by omega
    rwa [e] at this
  have HNM := Lib.hid hNM
  have lNN : N ≤ 512 := by omega
  clear hNM
  go_enter Tryz.func49, Tryz.ntmps49
  go_wp2_with fail
  refine (HBO.out _).mono ?_
  rintro e w0 ⟨rfl, rfl⟩
  go_wp2_with fail
  refine (HX.out _).mono ?_
  rintro e w1 ⟨A1, c1, rfl, hx, hb1⟩
  have X1 := Lib.hid (IntsV.of_own' hx (by rw [digL_length, size_eq, HN.out]))
  have B1 := Lib.hid hb1
  clear hx hb1
  go_wp2_with fail
  refine (HY.out _).mono ?_
  rintro e w2 ⟨A2, c2, rfl, hy, hb2⟩
  have X2 := Lib.hid (X1.out.below hb2)
  have Y2 := Lib.hid (IntsV.of_own' hy (by rw [digL_length, size_eq, HM.out]))
  have B2 := Lib.hid (B1.out.trans (hb2.mono B1.out.size))
  clear hy hb2 X1 B1
  have HXD := Lib.hid (digL_dig a.data.toList)
  have HYD := Lib.hid (digL_dig b.data.toList)
  have HXL : Hid ((digL a.data.toList).length = n) := by show _ = _; rw [digL_length, size_eq, HN.out]
  have HYL : Hid ((digL b.data.toList).length = m) := by show _ = _; rw [digL_length, size_eq, HM.out]
  have HXV : Hid (dval (digL a.data.toList) = (bv a : Int)) := dval_digL _
  have HYV : Hid (dval (digL b.data.toList) = (bv b : Int)) := dval_digL _
  generalize digL a.data.toList = xs at *
  generalize digL b.data.toList = ys at *
  generalize bv a = va at *
  generalize bv b = vb at *
  go_wp2
  go_loopw [10] (fun v wr => ∃ i : Nat, i ≤ n ∧ v = .int .i64 i ∧ Below w2.heap.size w2 wr ∧ ∃ f, IRow wr w2.heap.size N f ∧ Hid (vsum f N = dval (xs.take i) * dval ys ∧ ∀ j, 0 ≤ f j ∧ f j ≤ 65025 * i)) (fun v _ => n - (intOf v).toNat)
  case atStart => exact ⟨0, Nat.zero_le _, rfl, (Below.refl _ _).alloc (Nat.le_refl _) _, _, IRow.new _ _, by rw [vsum_zero]; simp [dval], fun j => by simp⟩
  case round =>
    obtain ⟨i, hi, rfl, hb, f, hr, HF⟩ := hrel
    have HB := Lib.hid hb
    have HR := Lib.hid hr
    have X3 := Lib.hid (X2.out.below hb)
    clear hb hr
    by_cases hlt : i < n
    · obtain ⟨p, hp⟩ : ∃ p, xs[i]? = some p := ⟨xs[i]'(by have := HXL.out; omega), List.getElem?_eq_getElem (by have := HXL.out; omega)⟩
      have HP := Lib.hid (dval_take hp)
      obtain ⟨p0, p1⟩ := HXD.out p (List.mem_of_getElem? hp)
      obtain ⟨bx, ox, rfl, lx, _⟩ := IntsV.nth X2.out hp
      have XC : Hid (w2.cell? ⟨bx, ox + i, none⟩ = some (.int .i64 p)) := by
        obtain ⟨b', o', e, _, hc⟩ := IntsV.nth X2.out hp
        cases e
        exact hc
      clear hp X3
      go_wp2
      go_loopw [11] (fun v ws => ∃ k : Nat, k ≤ m ∧ v = .int .i64 k ∧ Below w2.heap.size w2 ws ∧ ∃ f, IRow ws w2.heap.size N f ∧ Hid (vsum f N = dval (xs.take i) * dval ys + 256 ^ i * p * dval (ys.take k) ∧ (∀ j, 0 ≤ f j ∧ f j ≤ 65025 * (i + 1)) ∧ ∀ j, i + k ≤ j → f j ≤ 65025 * i)) (fun v _ => m - (intOf v).toNat)
      case atStart => exact ⟨0, Nat.zero_le _, rfl, HB.out, f, HR.out, by rw [HF.out.1]; simp [dval], fun j => by have := HF.out.2 j; omega, fun j _ => (HF.out.2 j).2⟩
      case round =>
        obtain ⟨k, hk, rfl, hb, g, hr, HG⟩ := hrel
        by_cases hkl : k < m
        · obtain ⟨q, hq⟩ : ∃ q, ys[k]? = some q := ⟨ys[k]'(by have := HYL.out; omega), List.getElem?_eq_getElem (by have := HYL.out; omega)⟩
          obtain ⟨q0, q1⟩ := HYD.out q (List.mem_of_getElem? hq)
          have HQ := Lib.hid (dval_take hq)
          obtain ⟨by_, oy, rfl, ly, hcy⟩ := IntsV.nth Y2.out hq
          have cx := (hb.cell (p := ⟨bx, _, none⟩) lx).trans XC.out
          have cy := (hb.cell (p := ⟨by_, _, none⟩) ly).trans hcy
          obtain ⟨t, ht⟩ : ∃ t, i + k = t := ⟨_, rfl⟩
          have hik : t < N := by have := HNM.out; omega
          have cg := hr.cell hik
          have fg := hr.frozen t
          obtain ⟨g0, g1⟩ := HG.out.2.1 t
          have g2 := HG.out.2.2 t (by omega)
          have hpq : 0 ≤ p * q ∧ p * q ≤ 65025 := ⟨Int.mul_nonneg p0 q0, Int.le_trans (Int.mul_le_mul p1 q1 q0 (by omega)) (by omega)⟩
          have HPQ : Hid (IRow (wr.drew.setCell ⟨w2.heap.size, t, none⟩ (.int .i64 (g t + p * q))) w2.heap.size N (fun j => if j = t then g t + p * q else g j)) := IRow.set (w := wr.drew) hr _ _
          have HV2 : Hid (vsum (fun j => if j = t then g t + p * q else g j) N = dval (xs.take i) * dval ys + 256 ^ i * p * dval (ys.take (k + 1))) := by
            subst ht
            exact mul_inner hik HG.out.1 HQ.out
          have HBD : Hid ((∀ j, 0 ≤ (if j = t then g t + p * q else g j) ∧ (if j = t then g t + p * q else g j) ≤ 65025 * ((i : Int) + 1)) ∧ ∀ j, i + (k + 1) ≤ j → (if j = t then g t + p * q else g j) ≤ 65025 * (i : Int)) := by
            refine ⟨fun j => ?_, fun j hj => ?_⟩
            · split
              · omega
              · exact HG.out.2.1 j
            · rw [if_neg (by omega)]
              exact HG.out.2.2 j (by omega)
          have HB3 : Hid (Below w2.heap.size w2 (wr.drew.setCell ⟨w2.heap.size, t, none⟩ (.int .i64 (g t + p * q)))) := hb.drew.setCell (Nat.le_refl _) _
          have z0 : IntKind.i64.wrap ((i : Int) + (k : Int)) = (t : Int) := by rw [IntKind.wrap_i64]; omega
          have z1 : IntKind.i64.wrap (p * q) = p * q := by rw [IntKind.wrap_i64]; omega
          have z2 : IntKind.i64.wrap (g t + p * q) = g t + p * q := by rw [IntKind.wrap_i64]; omega
          have hj0 : (0 : Int) ≤ (t : Int) := by omega
          have hj1 : (t : Int) < (N : Int) := by omega
          have hj2 : (0 : Int) ≤ (i : Int) := by omega
          have hj3 : (i : Int) < (n : Int) := by omega
          have hj4 : (0 : Int) ≤ (k : Int) := by omega
          have hj5 : (k : Int) < (m : Int) := by omega
          have HTT := Lib.hid ht
          clear ht
          have hne1 : bx ≠ w2.heap.size := by omega
          have hne2 : by_ ≠ w2.heap.size := by omega
          have S0 : wr.drew.cell? ⟨bx, ox + i, none⟩ = some (.int .i64 p) ∧ wr.drew.cell? ⟨by_, oy + k, none⟩ = some (.int .i64 q) := ⟨cx, cy⟩
          clear hq hcy hb hr HG HQ
          go_wp2
          refine wp_region_held_drew (S := (fun W => W.cell? ⟨bx, ox + i, none⟩ = some (.int .i64 p) ∧ W.cell? ⟨by_, oy + k, none⟩ = some (.int .i64 q))) (by kernel_rfl) ?_ (fun hHeld => ?_)
          · exact S0
          refine rp_take (i := 0) (v := ?_) rfl (by kernel_rfl) (by kernel_rfl) (by kernel_rfl) (by rfl) (by assumption) ?_ (by exact fun _ _ _ h => h) ?_
          rotate_left
          · (intro w hSw; (try dsimp only at hSw); go_simp; try (with_reducible rfl))
          (try simp only [Act.put, List.setIfInBounds_toArray, List.set_cons_zero, List.set_cons_succ])
          refine rp_take (i := 1) (v := ?_) rfl (by kernel_rfl) (by kernel_rfl) (by kernel_rfl) (by rfl) (by assumption) ?_ (by exact fun _ _ _ h => h) ?_
          rotate_left
          · (intro w hSw; (try dsimp only at hSw); go_simp; try (with_reducible rfl))
          (try simp only [Act.put, List.setIfInBounds_toArray, List.set_cons_zero, List.set_cons_succ])
          refine rp_take (i := 2) (v := ?_) rfl (by kernel_rfl) (by kernel_rfl) (by kernel_rfl) (by rfl) (by assumption) ?_ (by exact fun _ _ _ h => h) ?_
          rotate_left
          · (intro w hSw; (try dsimp only at hSw); go_simp; try (with_reducible rfl))
          (try simp only [Act.put, List.setIfInBounds_toArray, List.set_cons_zero, List.set_cons_succ])
          refine rp_take (i := 3) (v := ?_) rfl (by kernel_rfl) (by kernel_rfl) (by kernel_rfl) (by rfl) (by assumption) ?_ (by exact fun _ _ _ h => h) ?_
          rotate_left
          · (intro w hSw; (try dsimp only at hSw); go_simp; try (with_reducible rfl))
          (try simp only [Act.put, List.setIfInBounds_toArray, List.set_cons_zero, List.set_cons_succ])
          refine rp_take (i := 4) (v := ?_) rfl (by kernel_rfl) (by kernel_rfl) (by kernel_rfl) (by rfl) (by assumption) ?_ (by exact fun _ _ _ h => h) ?_
          rotate_left
          · (intro w hSw; (try dsimp only at hSw); go_simp; try (with_reducible rfl))
          (try simp only [Act.put, List.setIfInBounds_toArray, List.set_cons_zero, List.set_cons_succ])
          refine rp_take (i := 5) (v := ?_) rfl (by kernel_rfl) (by kernel_rfl) (by kernel_rfl) (by rfl) (by assumption) ?_ (by exact fun _ _ _ h => h) ?_
          rotate_left
          · (intro w hSw; (try dsimp only at hSw); go_simp; try (with_reducible rfl))
          (try simp only [Act.put, List.setIfInBounds_toArray, List.set_cons_zero, List.set_cons_succ])
          refine rp_take (i := 6) (v := ?_) rfl (by kernel_rfl) (by kernel_rfl) (by kernel_rfl) (by rfl) (by assumption) ?_ (by exact fun _ _ _ h => h) ?_
          rotate_left
          · (intro w hSw; (try dsimp only at hSw); go_simp; try (with_reducible rfl))
          (try simp only [Act.put, List.setIfInBounds_toArray, List.set_cons_zero, List.set_cons_succ])
          refine rp_take (i := 7) (v := ?_) rfl (by kernel_rfl) (by kernel_rfl) (by kernel_rfl) (by rfl) (by assumption) ?_ (by exact fun _ _ _ h => h) ?_
          rotate_left
          · (intro w hSw; (try dsimp only at hSw); go_simp; try (with_reducible rfl))
          (try simp only [Act.put, List.setIfInBounds_toArray, List.set_cons_zero, List.set_cons_succ])
          refine rp_take (i := 8) (v := ?_) rfl (by kernel_rfl) (by kernel_rfl) (by kernel_rfl) (by rfl) (by assumption) ?_ (by exact fun _ _ _ h => h) ?_
          rotate_left
          · (intro w hSw; (try dsimp only at hSw); go_simp; try (with_reducible rfl))
          (try simp only [Act.put, List.setIfInBounds_toArray, List.set_cons_zero, List.set_cons_succ])
          refine rp_take (i := 10) (v := ?_) rfl (by kernel_rfl) (by kernel_rfl) (by kernel_rfl) (by rfl) (by assumption) ?_ (by exact fun _ _ _ h => h) ?_
          rotate_left
          · (intro w hSw; (try dsimp only at hSw); go_simp; try (with_reducible rfl))
          (try simp only [Act.put, List.setIfInBounds_toArray, List.set_cons_zero, List.set_cons_succ])
          refine rp_take (i := 11) (v := ?_) rfl (by kernel_rfl) (by kernel_rfl) (by kernel_rfl) (by rfl) (by assumption) ?_ (by exact fun _ _ _ h => h) ?_
          rotate_left
          · (intro w hSw; (try dsimp only at hSw); go_simp; try (with_reducible rfl))
          (try simp only [Act.put, List.setIfInBounds_toArray, List.set_cons_zero, List.set_cons_succ])
          refine rp_take (i := 12) (v := ?_) rfl (by kernel_rfl) (by kernel_rfl) (by kernel_rfl) (by rfl) (by assumption) ?_ (by exact fun _ _ _ h => h) ?_
          rotate_left
          · (intro w hSw; (try dsimp only at hSw); go_simp; try (with_reducible rfl))
          (try simp only [Act.put, List.setIfInBounds_toArray, List.set_cons_zero, List.set_cons_succ])
          refine rp_take (i := 13) (v := ?_) rfl (by kernel_rfl) (by kernel_rfl) (by kernel_rfl) (by rfl) (by assumption) ?_ (by exact fun _ _ _ h => h) ?_
          rotate_left
          · (intro w hSw; (try dsimp only at hSw); go_simp; try (with_reducible rfl))
          (try simp only [Act.put, List.setIfInBounds_toArray, List.set_cons_zero, List.set_cons_succ])
          refine rp_take (i := 14) (v := ?_) rfl (by kernel_rfl) (by kernel_rfl) (by kernel_rfl) (by rfl) (by assumption) ?_ (by exact fun _ _ _ h => h) ?_
          rotate_left
          · (intro w hSw; (try dsimp only at hSw); go_simp; try (with_reducible rfl))
          (try simp only [Act.put, List.setIfInBounds_toArray, List.set_cons_zero, List.set_cons_succ])
          refine rp_take (i := 15) (v := ?_) rfl (by kernel_rfl) (by kernel_rfl) (by kernel_rfl) (by rfl) (by assumption) ?_ (by exact fun _ _ _ h => h) ?_
          rotate_left
          · (intro w hSw; (try dsimp only at hSw); go_simp; try (with_reducible rfl))
          (try simp only [Act.put, List.setIfInBounds_toArray, List.set_cons_zero, List.set_cons_succ])
          refine rp_take (i := 16) (v := ?_) rfl (by kernel_rfl) (by kernel_rfl) (by kernel_rfl) (by rfl) (by assumption) ?_ (by exact fun _ _ _ h => h) ?_
          rotate_left
          · (intro w hSw; (try dsimp only at hSw); go_simp; try (with_reducible rfl))
          (try simp only [Act.put, List.setIfInBounds_toArray, List.set_cons_zero, List.set_cons_succ])
          refine rp_take (i := 17) (v := ?_) rfl (by kernel_rfl) (by kernel_rfl) (by kernel_rfl) (by rfl) (by assumption) ?_ (by exact fun _ _ _ h => h) ?_
          rotate_left
          · (intro w hSw; (try dsimp only at hSw); go_simp; try (with_reducible rfl))
          (try simp only [Act.put, List.setIfInBounds_toArray, List.set_cons_zero, List.set_cons_succ])
          refine rp_take (i := 18) (v := ?_) rfl (by kernel_rfl) (by kernel_rfl) (by kernel_rfl) (by rfl) (by assumption) ?_ (by exact fun _ _ _ h => h) ?_
          rotate_left
          · (intro w hSw; (try dsimp only at hSw); go_simp; try (with_reducible rfl))
          (try simp only [Act.put, List.setIfInBounds_toArray, List.set_cons_zero, List.set_cons_succ])
          refine wpAnyH_ready (rs := [9]) (by kernel_rfl) (by simp) ?_
          refine rh_cons (i := 9) rfl (fun K hK => ?_) ?_
          · go_simp
            have S1 := S0
            refine hK.out _ _ ?_ (fun hHeld => ?_)
            · (try dsimp only)
              exact S1
            clear hK K
            (try simp only [Act.put, List.setIfInBounds_toArray, List.set_cons_zero, List.set_cons_succ])
            refine rp_take (i := 19) (v := ?_) rfl (by kernel_rfl) (by kernel_rfl) (by kernel_rfl) (by rfl) (by assumption) ?_ (by exact fun _ _ _ h => h) ?_
            rotate_left
            · (intro w hSw; (try dsimp only at hSw); go_simp; try (with_reducible rfl))
            (try simp only [Act.put, List.setIfInBounds_toArray, List.set_cons_zero, List.set_cons_succ])
            refine rp_take (i := 20) (v := ?_) rfl (by kernel_rfl) (by kernel_rfl) (by kernel_rfl) (by rfl) (by assumption) ?_ (by exact fun _ _ _ h => h) ?_
            rotate_left
            · (intro w hSw; (try dsimp only at hSw); go_simp; try (with_reducible rfl))
            (try simp only [Act.put, List.setIfInBounds_toArray, List.set_cons_zero, List.set_cons_succ])
            refine wpAnyH_ready (rs := [21]) (by kernel_rfl) (by simp) ?_
            refine rh_cons (i := 21) rfl (fun K hK => ?_) ?_
            · go_simp
              have S1 := And.intro ((World.cell?_of_block (w := wr.drew) (Below.heap_setCell wr.drew ⟨w2.heap.size, t, none⟩ (.int .i64 (g t + p * q)) bx hne1)).trans cx) ((World.cell?_of_block (w := wr.drew) (Below.heap_setCell wr.drew ⟨w2.heap.size, t, none⟩ (.int .i64 (g t + p * q)) by_ hne2)).trans cy)
              refine hK.out _ _ ?_ (fun hHeld => ?_)
              · (try dsimp only)
                exact S1
              clear hK K
              (try simp only [Act.put, List.setIfInBounds_toArray, List.set_cons_zero, List.set_cons_succ])
              refine wpAnyH_done (by kernel_rfl) ?_ _
              go_wp2
              exact ⟨⟨k + 1, by omega, by go_num, HB3.out, _, HPQ.out, HV2.out, HBD.out⟩, by simp [intOf]; omega⟩
            exact AllReadyH.nil
          exact AllReadyH.nil
        · obtain rfl : k = m := by omega
          have HB3 := Lib.hid hb
          have HR3 := Lib.hid hr
          have HG3 : Hid (vsum g N = dval (xs.take (i + 1)) * dval ys ∧ ∀ j, 0 ≤ g j ∧ g j ≤ 65025 * ((i + 1 : Nat) : Int)) := by
            refine ⟨?_, fun j => ?_⟩
            · rw [HG.out.1, HP.out, dval_take_ge (l := ys) (by rw [HYL.out]; exact Nat.le_refl _)]
              grind
            · have := HG.out.2.1 j
              omega
          clear hb hr HG
          go_wp2
          exact ⟨⟨i + 1, by omega, by go_num, HB3.out, g, HR3.out, HG3⟩, by simp [intOf]; omega⟩
    · obtain rfl : i = n := by omega
      have HE : Hid (dval ((List.range N).map f) = ((va * vb : Nat) : Int)) := by
        show _ = _
        have := HF.out.1
        rw [dval_take_ge (l := xs) (by rw [HXL.out]; exact Nat.le_refl _), HXV.out, HYV.out] at this
        rw [Int.natCast_mul]
        exact this
      have HBN : Hid (∀ d ∈ (List.range N).map f, -1099511627776 ≤ d ∧ d ≤ 1099511627776) := by
        intro d hd
        obtain ⟨j, _, rfl⟩ := List.mem_map.1 hd
        have := HF.out.2 j
        omega
      have Z3 := Lib.hid (IRow.ints HR.out)
      have B3 := Lib.hid (B2.out.trans (HB.out.mono B2.out.size))
      clear HF HR
      go_wp2_with fail
      refine (carry_any _ N N _ _ Z3.out (by simp) (by omega) HBN.out (by rw [HE.out]; omega)).mono ?_
      rintro e w4 ⟨A4, m4, c4, out, rfl, hm4, ho4, hown4, hd4, hv4, hb4⟩
      have B4 := Lib.hid (B3.out.trans (hb4.mono B3.out.size))
      have HV4 := Lib.hid (hv4.trans HE.out)
      have Z4 := Lib.hid (IntsV.of_own' hown4 ho4)
      clear hown4 hb4 hv4
      go_wp2_with fail
      refine (number_any A4 m4 c4 out _ Z4.out ho4 hm4 hd4).mono ?_
      rw [HV4.out, Int.toNat_natCast]
      rintro e w5 ⟨rfl, hb5⟩
      have B5 := Lib.hid (B4.out.trans (hb5.mono B4.out.size))
      clear hb5
      go_wp2_with fail
      refine (short06_any _ _).mono ?_
      rw [short_bs]
      rintro e w6 ⟨rfl, rfl⟩
      rcases shortV_two (va * vb) with h | h
      all_goals
        rw [h]
        have HH := Lib.hid h
        clear h
        go_wp2
        go_ret2
        exact ⟨by rw [HH.out]; rfl, B5.out⟩
end Go.Proofs.YtoolanjbmbcaiaaGreatDoor
namespace Go.Proofs.YtoolanjbmbcaiaaGreatDoor
open Go.RowKit Bf

def natOf : Value → Nat
  | .string s => bv s
  | _ => 0
theorem bval_take_succ (l : List UInt8) (k : Nat) (h : k < l.length) : bval (l.take (k + 1)) = 256 * bval (l.take k) + l[k].toNat := by
  rw [List.take_add_one, List.getElem?_eq_getElem h, Option.toList_some, bval_snoc]
theorem ba_ext {s t : ByteArray} (h : s.data.toList = t.data.toList) : s = t := by
  rcases s with ⟨⟨s⟩⟩
  rcases t with ⟨⟨t⟩⟩
  simp only at h
  rw [h]
/-- A number's string and one byte more. -/
theorem cat_byte (R : Nat) (a : ByteArray) (k : Nat) (h : k < a.size) (hz : R ≠ 0 ∨ (a[k]'h).toNat ≠ 0) : bs R ++ a.extract k (k + 1) = bs (256 * R + (a[k]'h).toNat) := by
  refine ba_ext ?_
  have e : (a.extract k (k + 1)).data.toList = [a[k]'h] := by
    have hk : k < a.data.toList.length := by rw [size_eq]; exact h
    rw [ByteArray.data_extract, Array.toList_extract, List.extract_eq_take_drop, Nat.add_sub_cancel_left, List.drop_eq_getElem_cons hk]
    rfl
  rw [ByteArray.data_append, Array.toList_append, e]
  show benc R ++ _ = benc _
  rw [benc_step _ _ (UInt8.toNat_lt _) hz]
  simp
theorem cat_zero (a : ByteArray) (k : Nat) (h : k < a.size) (hz : (a[k]'h).toNat = 0) : bs 0 ++ a.extract k (k + 1) = ⟨#[0]⟩ := by
  refine ba_ext ?_
  have e : (a.extract k (k + 1)).data.toList = [a[k]'h] := by
    have hk : k < a.data.toList.length := by rw [size_eq]; exact h
    rw [ByteArray.data_extract, Array.toList_extract, List.extract_eq_take_drop, Nat.add_sub_cancel_left, List.drop_eq_getElem_cons hk]
    rfl
  rw [ByteArray.data_append, Array.toList_append, e]
  show [] ++ [a[k]'h] = [0]
  rw [List.nil_append]
  congr 1
  exact UInt8.toNat_inj.1 hz

set_option maxRecDepth 100000 in
set_option maxHeartbeats 2000000 in
theorem divide06_any (a b : ByteArray) (w : World) (la : a.size ≤ 60000) (hb : Nat' b) (lb : b.size ≤ 60000) (h0 : bv b ≠ 0) :
    Calls Tryz.prog 74 #[.string a, .string b] w (Ret w (.tuple #[.string (bs (bv a / bv b)), .string (bs (bv a % bv b))])) := by
  obtain ⟨i0, hi0, hz0, hz1, hz2⟩ := info_parts u8_info
  obtain ⟨n, hn⟩ : ∃ n, a.size = n := ⟨_, rfl⟩
  have HN := Lib.hid hn
  have hsz : (a.size : Int) = (n : Int) := by rw [hn]
  have HLS := Lib.hid (fun (s : ByteArray) W (h : Nat' s) (l : s.size ≤ 65536) => less_any s b W h hb l (by omega))
  have HMI := Lib.hid (fun (s : ByteArray) W (l : s.size ≤ 65536) (hle : bv b ≤ bv s) => minus_any s b W hb l (by omega) hle)
  have HB0 : Hid (0 < bv b) := by show 0 < bv b; omega
  have HSZ : Hid (∀ X : Nat, X < 256 * bv b → (bs X).size ≤ 65536) := fun X hX => by
    have h1 := bval_lt b.data.toList
    rw [size_eq] at h1
    have h2 : X < 256 ^ (b.size + 1) := by
      rw [Nat.pow_succ]
      unfold bv at hX
      omega
    rw [bs_size]
    have := benc_length_le.2 h2
    omega
  have HAV : Hid (bval (a.data.toList.take n) = bv a) := by
    show _ = _
    rw [List.take_of_length_le (by rw [size_eq, hn]; exact Nat.le_refl _)]; rfl
  have hnot : ∀ (x : Bool) (w : World), (Op.unary .not (.bool x)).run Tryz.prog w = .ok (.bool (!x)) w := fun _ _ => rfl
  have lN : n ≤ 65536 := by omega
  generalize bv b = B at *
  clear hn hb lb h0 la
  go_enter Tryz.func74, Tryz.ntmps74
  go_wp2
  go_loopw [6, 7, 8] (fun q r i wr => ∃ k : Nat, k ≤ n ∧ i = .int .i64 k ∧ r = .string (bs (bval (a.data.toList.take k) % B)) ∧ (∃ A2 L c2, q = .slice A2 L c2 ∧ Hid ((benc (bval (a.data.toList.take k) / B)).length = L) ∧ wr.ownsRow w.heap.size 5 1 q L ((benc (bval (a.data.toList.take k) / B)).map byteV)) ∧ Below w.heap.size w wr) (fun _ _ i _ => n - (intOf i).toNat)
  case atStart =>
    refine ⟨0, Nat.zero_le _, rfl, ?_, ⟨_, 0, _, rfl, ?_, ?_⟩, (Below.refl _ _).alloc (Nat.le_refl _) _⟩
    · simp [bval_nil, Nat.zero_mod]; rfl
    · show _ = _
      simp [bval_nil, Nat.zero_div, benc_zero]
    · simp only [List.take_zero, bval_nil, Nat.zero_div, benc_zero]
      exact own_empty _ _
  case round =>
    obtain ⟨k, hk, rfl, rfl, ⟨A2, L, c2, rfl, HL, hown⟩, hb⟩ := hrel
    have HO := Lib.hid hown
    have HB := Lib.hid hb
    clear hown hb
    by_cases hlt : k < n
    · have xa : k < a.size := by have := HN.out; omega
      have HST := Lib.hid (bval_take_succ a.data.toList k (by rw [size_eq]; exact xa))
      obtain ⟨V, hV⟩ : ∃ V, bval (a.data.toList.take k) = V := ⟨_, rfl⟩
      obtain ⟨c, hc⟩ : ∃ c, (a[k]'xa).toNat = c := ⟨_, rfl⟩
      have hst : bval (a.data.toList.take (k + 1)) = 256 * V + c := by
        have h1 := HST.out
        rw [hV] at h1
        rw [h1, ← hc]
        rfl
      have HST2 := Lib.hid hst
      have HVB : Hid (V < 256 ^ k) := by
        show V < 256 ^ k
        rw [← hV]
        exact Nat.lt_of_lt_of_le (bval_lt _) (Nat.pow_le_pow_right (by omega) (by simp; omega))
      have hc256 : c < 256 := by rw [← hc]; exact UInt8.toNat_lt _
      have HDS := Lib.hid (divide_step (V := V) (c := c) HB0.out)
      have HDD := Lib.hid (divide_digit (V := V) (c := c) HB0.out hc256)
      rw [hV] at HO HL ⊢
      obtain ⟨X, hX⟩ : ∃ X, 256 * (V % B) + c = X := ⟨_, rfl⟩
      have HX := Lib.hid hX
      have HXB : Hid (X < 256 * B) := by
        show X < 256 * B
        have := Nat.mod_lt V HB0.out
        omega
      rw [hX] at HDS HDD
      have hk0 : (0 : Int) ≤ (k : Int) := by omega
      have hk1 : (k : Int) + 1 ≤ (a.size : Int) := by omega
      have hsr : (bs (V % B)).size ≤ 65536 := HSZ.out _ (by have := Nat.mod_lt V HB0.out; omega)
      by_cases hz : V % B = 0 ∧ c = 0
      · have hcat : bs (V % B) ++ a.extract k (k + 1) = ⟨#[0]⟩ := by rw [hz.1]; exact cat_zero a k xa (hc.trans hz.2)
        have hidx : ∀ W : World, (Instr.index 9 (.string ⟨#[0]⟩) (.int .i64 0)).run Tryz.prog W = .ok (.int .u8 0) W := fun W => run_index_str (P := Tryz.prog) Tryz.underlying9 ⟨#[0]⟩ 0 0 rfl (by decide) W
        obtain ⟨T, hT⟩ : ∃ T : ByteArray, T = ⟨#[0]⟩ := ⟨_, rfl⟩
        have hTs : T.size = 1 := by rw [hT]; rfl
        have hTe : T.extract 1 1 = ⟨#[]⟩ := by rw [hT]; rfl
        rw [← hT] at hcat hidx
        clear hT
        have HX0 : Hid (X = 0) := by show X = 0; omega
        clear hz hst hX hV hc HST
        generalize bs (V % B) = sr at *
        go_wp2
        go_loopw [7, 9] (fun r d ws => ∃ j : Nat, d = .int .i64 j ∧ r = .string (bs (X - j * B)) ∧ Hid (j * B ≤ X) ∧ Below w.heap.size w ws ∧ ws.ownsRow w.heap.size 5 1 (.slice A2 L c2) L ((benc (V / B)).map byteV)) (fun r _ _ => natOf r)
        case atStart =>
          refine ⟨0, rfl, ?_, by show 0 * B ≤ X; omega, HB.out, HO.out⟩
          rw [HX0.out, Nat.zero_sub]; rfl
        case round =>
          obtain ⟨j, rfl, rfl, HJ, hb, hown⟩ := hrel
          clear HO HB
          have HO := Lib.hid hown
          have HB := Lib.hid hb
          clear hown hb
          have HYB : Hid (X - j * B < 256 * B) := by
            show _ < _
            have := HXB.out
            omega
          have HLY := Lib.hid (fun W => HLS.out (bs (X - j * B)) W (bs_nat _) (HSZ.out _ HYB.out))
          rw [bv_bs] at HLY
          have hj256 : j < 256 := by
            have h1 := Nat.lt_of_le_of_lt HJ.out HXB.out
            exact Nat.lt_of_mul_lt_mul_right h1
          by_cases hge : B ≤ X - j * B
          · rw [decide_eq_false (by omega : ¬ X - j * B < B)] at HLY
            have HMY := Lib.hid (fun W => HMI.out (bs (X - j * B)) W (HSZ.out _ HYB.out) (by rw [bv_bs]; exact hge))
            rw [bv_bs] at HMY
            have HE : Hid (X - j * B - B = X - (j + 1) * B ∧ (j + 1) * B ≤ X) := by
              have := HJ.out
              refine ⟨?_, ?_⟩ <;> rw [Nat.add_mul, Nat.one_mul] <;> omega
            rw [HE.out.1] at HMY
            have HLT : Hid (natOf (.string (bs (X - (j + 1) * B))) < natOf (.string (bs (X - j * B)))) := by
              show bv _ < bv _
              rw [bv_bs, bv_bs, ← HE.out.1]
              have := HB0.out
              omega
            clear HYB hge
            go_wp2_with fail
            refine (HLY.out _).mono ?_
            rintro e w4 ⟨rfl, hb4⟩
            have HB4 := Lib.hid (HB.out.trans (hb4.mono HB.out.size))
            have HO4 : Hid (w4.ownsRow w.heap.size 5 1 (.slice A2 L c2) L ((benc (V / B)).map byteV)) := owns_of HO.out fun g hg => hb4.block g (owns_lt HO.out hg)
            clear hb4 HO HB HLY
            go_wp2_with fail
            refine (HMY.out _).mono ?_
            rintro e w5 ⟨rfl, hb5⟩
            have HB5 := Lib.hid (HB4.out.trans (hb5.mono HB4.out.size))
            have HO5 : Hid (w5.ownsRow w.heap.size 5 1 (.slice A2 L c2) L ((benc (V / B)).map byteV)) := owns_of HO4.out fun g hg => hb5.block g (owns_lt HO4.out hg)
            clear hb5 HO4 HB4 HMY
            go_wp2
            exact ⟨⟨j + 1, by go_num, rfl, HE.out.2, HB5.out, HO5.out⟩, HLT.out⟩
          · rw [decide_eq_true (by omega : X - j * B < B)] at HLY
            have HQ : Hid (X / B = j ∧ X % B = X - j * B) := by
              have h1 := HJ.out
              have e : X = B * j + (X - j * B) := by rw [Nat.mul_comm]; omega
              have h2 : (B * j + (X - j * B)) / B = j := by rw [Nat.mul_add_div HB0.out, Nat.div_eq_of_lt (by omega)]; rfl
              have h3 : (B * j + (X - j * B)) % B = X - j * B := by rw [Nat.mul_add_mod, Nat.mod_eq_of_lt (by omega)]
              rw [← e] at h2 h3
              exact ⟨h2, h3⟩
            have HN1 : Hid (bval (a.data.toList.take (k + 1)) / B = 256 * (V / B) + j ∧ bval (a.data.toList.take (k + 1)) % B = X - j * B) := by
              rw [HST2.out]
              exact ⟨by rw [HDS.out.1, HQ.out.1], by rw [HDS.out.2, HQ.out.2]⟩
            have HL0 : Hid (V / B = 0 ↔ L = 0) := by
              have := HL.out
              constructor
              · intro h; rw [← this, h]; rfl
              · intro h
                rw [h] at this
                exact benc_eq_nil.1 (List.length_eq_zero_iff.1 this)
            have HLL : Hid (L ≤ k) := by
              show L ≤ k
              rw [← HL.out, benc_length_le]
              exact Nat.lt_of_le_of_lt (Nat.div_le_self _ _) HVB.out
            clear HYB hge HJ
            go_wp2_with fail
            refine (HLY.out _).mono ?_
            rintro e w4 ⟨rfl, hb4⟩
            have HB4 := Lib.hid (HB.out.trans (hb4.mono HB.out.size))
            have HO4 : Hid (w4.ownsRow w.heap.size 5 1 (.slice A2 L c2) L ((benc (V / B)).map byteV)) := owns_of HO.out fun g hg => hb4.block g (owns_lt HO.out hg)
            clear hb4 HO HB HLY
            by_cases hap : j = 0 ∧ L = 0
            · obtain ⟨hj0, hL0⟩ := hap
              have HF : Hid (bval (a.data.toList.take (k + 1)) / B = 0) := by
                show _ = _
                rw [HN1.out.1, HL0.out.2 hL0, hj0]
              have HO5 : Hid (w4.ownsRow w.heap.size 5 1 (.slice A2 L c2) L ((benc (bval (a.data.toList.take (k + 1)) / B)).map byteV)) := by
                show World.ownsRow _ _ _ _ _ _ _
                rw [HF.out]
                have := HO4.out
                rw [HL0.out.2 hL0] at this
                exact this
              have HL5 : Hid ((benc (bval (a.data.toList.take (k + 1)) / B)).length = L) := by
                show _ = _
                rw [HF.out, hL0]; rfl
              have u1 : ¬ 0 < j := by omega
              have u2 : ¬ 0 < L := by omega
              have HR : Hid (bs (X - j * B) = bs (bval (a.data.toList.take (k + 1)) % B)) := by show _ = _; rw [HN1.out.2]
              clear HO4 hj0 hL0
              go_wp2
              exact ⟨⟨k + 1, by omega, by go_num, by rw [HR.out], ⟨_, _, _, rfl, HL5, HO5.out⟩, HB4.out⟩, by simp [intOf]; omega⟩
            · have hw8 : IntKind.u8.wrap (j : Int) = (j : Int) := by rw [IntKind.wrap_u8]; omega
              have HF : Hid (benc (bval (a.data.toList.take (k + 1)) / B) = benc (V / B) ++ [UInt8.ofNat j]) := by
                show _ = _
                rw [HN1.out.1]
                refine benc_step _ _ hj256 ?_
                by_cases h : j = 0
                · exact .inl fun e => hap ⟨h, HL0.out.1 e⟩
                · exact .inr h
              have HBY : Hid (byteV (UInt8.ofNat j) = .int .u8 (j : Int)) := by
                show byteV _ = _
                unfold byteV
                rw [UInt8.toNat_ofNat']
                congr 1 <;> omega
              have HR : Hid (bs (X - j * B) = bs (bval (a.data.toList.take (k + 1)) % B)) := by show _ = _; rw [HN1.out.2]
              have hLL := HLL.out
              by_cases hj0 : j = 0
              · have u1 : ¬ 0 < j := by omega
                have u2 : 0 < L := by omega
                clear hj0
                go_wp2_with (at_builtin; refine wpList_append_any _ rfl _ _ _ rfl w.heap.size 5 i0 _ 1 1 Tryz.underlying130 hi0 hz0 hz1 hz2 rfl (by omega) (.slice A2 L c2) L ((benc (V / B)).map byteV) rfl ?_ (w4.heap.size + 1) (some ⟨w4.heap.size, 0, none⟩) 1 1 [.int .u8 (j : Int)] rfl ?_ ?_ ?_ ?_ ?_ ?_)
                · exact own_alloc HO4.out _
                · exact reads_one_v _ _ _
                · intro u hu; simp at hu; subst hu; rfl
                · simp only [maxLen]; omega
                · omega
                · have := HB4.out.size; simp; omega
                intro v2 w6 hown hg hat
                obtain ⟨A3, c3, rfl⟩ := owns_slice hown
                have HO6 : Hid (w6.ownsRow w.heap.size 5 1 (.slice A3 (L + 1) c3) (L + 1) ((benc (bval (a.data.toList.take (k + 1)) / B)).map byteV)) := by
                  show World.ownsRow _ _ _ _ _ _ _
                  rw [HF.out, List.map_append, List.map_cons, List.map_nil, HBY.out]
                  exact hown
                have HL6 : Hid ((benc (bval (a.data.toList.take (k + 1)) / B)).length = L + 1) := by
                  show _ = _
                  rw [HF.out, List.length_append, HL.out]; rfl
                have HB6 := Lib.hid (app_below2 HB4.out hg (own_base HO4.out))
                clear hown hg hat HO4
                go_wp2
                exact ⟨⟨k + 1, by omega, by go_num, by rw [HR.out], ⟨_, _, _, rfl, HL6, HO6.out⟩, HB6.out⟩, by simp [intOf]; omega⟩
              · have u1 : 0 < j := by omega
                clear hj0
                go_wp2_with (at_builtin; refine wpList_append_any _ rfl _ _ _ rfl w.heap.size 5 i0 _ 1 1 Tryz.underlying130 hi0 hz0 hz1 hz2 rfl (by omega) (.slice A2 L c2) L ((benc (V / B)).map byteV) rfl ?_ (w4.heap.size + 1) (some ⟨w4.heap.size, 0, none⟩) 1 1 [.int .u8 (j : Int)] rfl ?_ ?_ ?_ ?_ ?_ ?_)
                · exact own_alloc HO4.out _
                · exact reads_one_v _ _ _
                · intro u hu; simp at hu; subst hu; rfl
                · simp only [maxLen]; omega
                · omega
                · have := HB4.out.size; simp; omega
                intro v2 w6 hown hg hat
                obtain ⟨A3, c3, rfl⟩ := owns_slice hown
                have HO6 : Hid (w6.ownsRow w.heap.size 5 1 (.slice A3 (L + 1) c3) (L + 1) ((benc (bval (a.data.toList.take (k + 1)) / B)).map byteV)) := by
                  show World.ownsRow _ _ _ _ _ _ _
                  rw [HF.out, List.map_append, List.map_cons, List.map_nil, HBY.out]
                  exact hown
                have HL6 : Hid ((benc (bval (a.data.toList.take (k + 1)) / B)).length = L + 1) := by
                  show _ = _
                  rw [HF.out, List.length_append, HL.out]; rfl
                have HB6 := Lib.hid (app_below2 HB4.out hg (own_base HO4.out))
                clear hown hg hat HO4
                go_wp2
                exact ⟨⟨k + 1, by omega, by go_num, by rw [HR.out], ⟨_, _, _, rfl, HL6, HO6.out⟩, HB6.out⟩, by simp [intOf]; omega⟩
      · have hcat : bs (V % B) ++ a.extract k (k + 1) = bs X := by
          rw [← hX, ← hc]
          exact cat_byte _ a k xa (by rw [hc]; omega)
        have hXn : X ≠ 0 := by omega
        have hp : 0 < (bs X).size := by
          rcases Nat.eq_zero_or_pos (bs X).size with h | h
          · have : benc X = [] := List.length_eq_zero_iff.1 (by rw [← bs_size]; exact h)
            exact absurd (benc_eq_nil.1 this) hXn
          · exact h
        have hidx := run_index_str (P := Tryz.prog) Tryz.underlying9 (bs X) 0 0 rfl hp
        have t0 : ((((bs X)[0]'hp).toNat : Int) == 0) = false := by
          rw [beq_eq_false_iff_ne]
          have := (nat'_iff (bs X)).1 (bs_nat X) hp
          omega
        generalize ((bs X)[0]'hp).toNat = x0 at *
        clear hz hst hX hV hc HST hXn
        generalize bs (V % B) = sr at *
        go_wp2
        go_loopw [7, 9] (fun r d ws => ∃ j : Nat, d = .int .i64 j ∧ r = .string (bs (X - j * B)) ∧ Hid (j * B ≤ X) ∧ Below w.heap.size w ws ∧ ws.ownsRow w.heap.size 5 1 (.slice A2 L c2) L ((benc (V / B)).map byteV)) (fun r _ _ => natOf r)
        case atStart =>
          refine ⟨0, rfl, ?_, by show 0 * B ≤ X; omega, HB.out, HO.out⟩
          rw [Nat.zero_mul, Nat.sub_zero]
        case round =>
          obtain ⟨j, rfl, rfl, HJ, hb, hown⟩ := hrel
          clear HO HB
          have HO := Lib.hid hown
          have HB := Lib.hid hb
          clear hown hb
          have HYB : Hid (X - j * B < 256 * B) := by
            show _ < _
            have := HXB.out
            omega
          have HLY := Lib.hid (fun W => HLS.out (bs (X - j * B)) W (bs_nat _) (HSZ.out _ HYB.out))
          rw [bv_bs] at HLY
          have hj256 : j < 256 := by
            have h1 := Nat.lt_of_le_of_lt HJ.out HXB.out
            exact Nat.lt_of_mul_lt_mul_right h1
          by_cases hge : B ≤ X - j * B
          · rw [decide_eq_false (by omega : ¬ X - j * B < B)] at HLY
            have HMY := Lib.hid (fun W => HMI.out (bs (X - j * B)) W (HSZ.out _ HYB.out) (by rw [bv_bs]; exact hge))
            rw [bv_bs] at HMY
            have HE : Hid (X - j * B - B = X - (j + 1) * B ∧ (j + 1) * B ≤ X) := by
              have := HJ.out
              refine ⟨?_, ?_⟩ <;> rw [Nat.add_mul, Nat.one_mul] <;> omega
            rw [HE.out.1] at HMY
            have HLT : Hid (natOf (.string (bs (X - (j + 1) * B))) < natOf (.string (bs (X - j * B)))) := by
              show bv _ < bv _
              rw [bv_bs, bv_bs, ← HE.out.1]
              have := HB0.out
              omega
            clear HYB hge
            go_wp2_with fail
            refine (HLY.out _).mono ?_
            rintro e w4 ⟨rfl, hb4⟩
            have HB4 := Lib.hid (HB.out.trans (hb4.mono HB.out.size))
            have HO4 : Hid (w4.ownsRow w.heap.size 5 1 (.slice A2 L c2) L ((benc (V / B)).map byteV)) := owns_of HO.out fun g hg => hb4.block g (owns_lt HO.out hg)
            clear hb4 HO HB HLY
            go_wp2_with fail
            refine (HMY.out _).mono ?_
            rintro e w5 ⟨rfl, hb5⟩
            have HB5 := Lib.hid (HB4.out.trans (hb5.mono HB4.out.size))
            have HO5 : Hid (w5.ownsRow w.heap.size 5 1 (.slice A2 L c2) L ((benc (V / B)).map byteV)) := owns_of HO4.out fun g hg => hb5.block g (owns_lt HO4.out hg)
            clear hb5 HO4 HB4 HMY
            go_wp2
            exact ⟨⟨j + 1, by go_num, rfl, HE.out.2, HB5.out, HO5.out⟩, HLT.out⟩
          · rw [decide_eq_true (by omega : X - j * B < B)] at HLY
            have HQ : Hid (X / B = j ∧ X % B = X - j * B) := by
              have h1 := HJ.out
              have e : X = B * j + (X - j * B) := by rw [Nat.mul_comm]; omega
              have h2 : (B * j + (X - j * B)) / B = j := by rw [Nat.mul_add_div HB0.out, Nat.div_eq_of_lt (by omega)]; rfl
              have h3 : (B * j + (X - j * B)) % B = X - j * B := by rw [Nat.mul_add_mod, Nat.mod_eq_of_lt (by omega)]
              rw [← e] at h2 h3
              exact ⟨h2, h3⟩
            have HN1 : Hid (bval (a.data.toList.take (k + 1)) / B = 256 * (V / B) + j ∧ bval (a.data.toList.take (k + 1)) % B = X - j * B) := by
              rw [HST2.out]
              exact ⟨by rw [HDS.out.1, HQ.out.1], by rw [HDS.out.2, HQ.out.2]⟩
            have HL0 : Hid (V / B = 0 ↔ L = 0) := by
              have := HL.out
              constructor
              · intro h; rw [← this, h]; rfl
              · intro h
                rw [h] at this
                exact benc_eq_nil.1 (List.length_eq_zero_iff.1 this)
            have HLL : Hid (L ≤ k) := by
              show L ≤ k
              rw [← HL.out, benc_length_le]
              exact Nat.lt_of_le_of_lt (Nat.div_le_self _ _) HVB.out
            clear HYB hge HJ
            go_wp2_with fail
            refine (HLY.out _).mono ?_
            rintro e w4 ⟨rfl, hb4⟩
            have HB4 := Lib.hid (HB.out.trans (hb4.mono HB.out.size))
            have HO4 : Hid (w4.ownsRow w.heap.size 5 1 (.slice A2 L c2) L ((benc (V / B)).map byteV)) := owns_of HO.out fun g hg => hb4.block g (owns_lt HO.out hg)
            clear hb4 HO HB HLY
            by_cases hap : j = 0 ∧ L = 0
            · obtain ⟨hj0, hL0⟩ := hap
              have HF : Hid (bval (a.data.toList.take (k + 1)) / B = 0) := by
                show _ = _
                rw [HN1.out.1, HL0.out.2 hL0, hj0]
              have HO5 : Hid (w4.ownsRow w.heap.size 5 1 (.slice A2 L c2) L ((benc (bval (a.data.toList.take (k + 1)) / B)).map byteV)) := by
                show World.ownsRow _ _ _ _ _ _ _
                rw [HF.out]
                have := HO4.out
                rw [HL0.out.2 hL0] at this
                exact this
              have HL5 : Hid ((benc (bval (a.data.toList.take (k + 1)) / B)).length = L) := by
                show _ = _
                rw [HF.out, hL0]; rfl
              have u1 : ¬ 0 < j := by omega
              have u2 : ¬ 0 < L := by omega
              have HR : Hid (bs (X - j * B) = bs (bval (a.data.toList.take (k + 1)) % B)) := by show _ = _; rw [HN1.out.2]
              clear HO4 hj0 hL0
              go_wp2
              exact ⟨⟨k + 1, by omega, by go_num, by rw [HR.out], ⟨_, _, _, rfl, HL5, HO5.out⟩, HB4.out⟩, by simp [intOf]; omega⟩
            · have hw8 : IntKind.u8.wrap (j : Int) = (j : Int) := by rw [IntKind.wrap_u8]; omega
              have HF : Hid (benc (bval (a.data.toList.take (k + 1)) / B) = benc (V / B) ++ [UInt8.ofNat j]) := by
                show _ = _
                rw [HN1.out.1]
                refine benc_step _ _ hj256 ?_
                by_cases h : j = 0
                · exact .inl fun e => hap ⟨h, HL0.out.1 e⟩
                · exact .inr h
              have HBY : Hid (byteV (UInt8.ofNat j) = .int .u8 (j : Int)) := by
                show byteV _ = _
                unfold byteV
                rw [UInt8.toNat_ofNat']
                congr 1 <;> omega
              have HR : Hid (bs (X - j * B) = bs (bval (a.data.toList.take (k + 1)) % B)) := by show _ = _; rw [HN1.out.2]
              have hLL := HLL.out
              by_cases hj0 : j = 0
              · have u1 : ¬ 0 < j := by omega
                have u2 : 0 < L := by omega
                clear hj0
                go_wp2_with (at_builtin; refine wpList_append_any _ rfl _ _ _ rfl w.heap.size 5 i0 _ 1 1 Tryz.underlying130 hi0 hz0 hz1 hz2 rfl (by omega) (.slice A2 L c2) L ((benc (V / B)).map byteV) rfl ?_ (w4.heap.size + 1) (some ⟨w4.heap.size, 0, none⟩) 1 1 [.int .u8 (j : Int)] rfl ?_ ?_ ?_ ?_ ?_ ?_)
                · exact own_alloc HO4.out _
                · exact reads_one_v _ _ _
                · intro u hu; simp at hu; subst hu; rfl
                · simp only [maxLen]; omega
                · omega
                · have := HB4.out.size; simp; omega
                intro v2 w6 hown hg hat
                obtain ⟨A3, c3, rfl⟩ := owns_slice hown
                have HO6 : Hid (w6.ownsRow w.heap.size 5 1 (.slice A3 (L + 1) c3) (L + 1) ((benc (bval (a.data.toList.take (k + 1)) / B)).map byteV)) := by
                  show World.ownsRow _ _ _ _ _ _ _
                  rw [HF.out, List.map_append, List.map_cons, List.map_nil, HBY.out]
                  exact hown
                have HL6 : Hid ((benc (bval (a.data.toList.take (k + 1)) / B)).length = L + 1) := by
                  show _ = _
                  rw [HF.out, List.length_append, HL.out]; rfl
                have HB6 := Lib.hid (app_below2 HB4.out hg (own_base HO4.out))
                clear hown hg hat HO4
                go_wp2
                exact ⟨⟨k + 1, by omega, by go_num, by rw [HR.out], ⟨_, _, _, rfl, HL6, HO6.out⟩, HB6.out⟩, by simp [intOf]; omega⟩
              · have u1 : 0 < j := by omega
                clear hj0
                go_wp2_with (at_builtin; refine wpList_append_any _ rfl _ _ _ rfl w.heap.size 5 i0 _ 1 1 Tryz.underlying130 hi0 hz0 hz1 hz2 rfl (by omega) (.slice A2 L c2) L ((benc (V / B)).map byteV) rfl ?_ (w4.heap.size + 1) (some ⟨w4.heap.size, 0, none⟩) 1 1 [.int .u8 (j : Int)] rfl ?_ ?_ ?_ ?_ ?_ ?_)
                · exact own_alloc HO4.out _
                · exact reads_one_v _ _ _
                · intro u hu; simp at hu; subst hu; rfl
                · simp only [maxLen]; omega
                · omega
                · have := HB4.out.size; simp; omega
                intro v2 w6 hown hg hat
                obtain ⟨A3, c3, rfl⟩ := owns_slice hown
                have HO6 : Hid (w6.ownsRow w.heap.size 5 1 (.slice A3 (L + 1) c3) (L + 1) ((benc (bval (a.data.toList.take (k + 1)) / B)).map byteV)) := by
                  show World.ownsRow _ _ _ _ _ _ _
                  rw [HF.out, List.map_append, List.map_cons, List.map_nil, HBY.out]
                  exact hown
                have HL6 : Hid ((benc (bval (a.data.toList.take (k + 1)) / B)).length = L + 1) := by
                  show _ = _
                  rw [HF.out, List.length_append, HL.out]; rfl
                have HB6 := Lib.hid (app_below2 HB4.out hg (own_base HO4.out))
                clear hown hg hat HO4
                go_wp2
                exact ⟨⟨k + 1, by omega, by go_num, by rw [HR.out], ⟨_, _, _, rfl, HL6, HO6.out⟩, HB6.out⟩, by simp [intOf]; omega⟩
    · obtain rfl : k = n := by omega
      rw [HAV.out] at HO HL ⊢
      have hcv : (convert 130 9 (.slice A2 L c2)).run Tryz.prog wr = .ok (.string (bs (bv a / B))) wr := conv_own HO.out HL.out
      generalize bs (bv a / B) = sq at *
      generalize bs (bv a % B) = sr at *
      go_wp2
      go_ret2
      exact ⟨rfl, HB.out⟩
end Go.Proofs.YtoolanjbmbcaiaaGreatDoor
namespace Go.Proofs.YtoolanjbmbcaiaaGreatDoor
open Go.RowKit Bf

theorem div06_any (a b : ByteArray) (w : World) (ha : Short a) (hb : Short b) (h0 : bv b ≠ 0) :
    Calls Tryz.prog 75 #[.string a, .string b] w (Ret w (.tuple #[.string (bs (bv a / bv b)), .string (bs (bv a % bv b)), .int .i64 0])) := by
  have HBO := Lib.hid (fun W => both_ok a b W ha hb)
  have HD := Lib.hid (fun W => divide06_any a b W (by have := ha.2; omega) hb.1 (by have := hb.2; omega) h0)
  have te : b.toList.isEmpty = false := by rw [empty_of hb.1]; simp [h0]
  clear ha hb h0
  generalize bs (bv a / bv b) = sq at *
  generalize bs (bv a % bv b) = sr at *
  go_enter Tryz.func75, Tryz.ntmps75
  go_wp2_with fail
  refine (HBO.out _).mono ?_
  rintro e w0 ⟨rfl, rfl⟩
  go_wp2_with fail
  refine (HD.out _).mono ?_
  rintro e w1 ⟨rfl, hb1⟩
  have HB1 := Lib.hid hb1
  clear hb1
  go_wp2
  exact bodyPost_ret (v := .tuple #[.string sq, .string sr, .int .i64 0]) (by simp [results, Tryz.results75, go_sem]) rfl ⟨rfl, HB1.out⟩

set_option maxRecDepth 100000 in
set_option maxHeartbeats 2000000 in
theorem gcd06_any (a b : ByteArray) (w : World) (ha : Short a) (hb : Short b) :
    Calls Tryz.prog 46 #[.string a, .string b] w (Ret w (.tuple #[.string (bs (Nat.gcd (bv a) (bv b))), .int .i64 0])) := by
  have HBO := Lib.hid (fun W => both_ok a b W ha hb)
  have HA : Hid (∃ p q : Nat, a = bs p ∧ b = bs q ∧ Nat.gcd p q = Nat.gcd (bv a) (bv b) ∧ p < LIM ∧ q < LIM) := ⟨bv a, bv b, (bs_bv ha.1).symm, (bs_bv hb.1).symm, rfl, short_lt ha, short_lt hb⟩
  clear ha hb
  generalize Nat.gcd (bv a) (bv b) = G at *
  go_enter Tryz.func46, Tryz.ntmps46
  go_wp2_with fail
  refine (HBO.out _).mono ?_
  rintro e w0 ⟨rfl, rfl⟩
  go_wp2
  go_loopw [0, 1] (fun x y wr => ∃ p q : Nat, x = .string (bs p) ∧ y = .string (bs q) ∧ Hid (Nat.gcd p q = G ∧ p < LIM ∧ q < LIM) ∧ Below w.heap.size w wr) (fun _ y _ => natOf y)
  case atStart =>
    obtain ⟨p, q, rfl, rfl, h⟩ := HA.out
    exact ⟨p, q, rfl, rfl, h, Below.refl _ _⟩
  case round =>
    obtain ⟨p, q, rfl, rfl, HG, hb⟩ := hrel
    have HB := Lib.hid hb
    clear hb
    have te := bs_isEmpty q
    by_cases hq : q = 0
    · have HE : Hid (bs p = bs G) := by
        show _ = _
        have := HG.out.1
        rw [hq, Nat.gcd_zero_right] at this
        rw [this]
      have te' : (bs q).toList.isEmpty = true := by rw [te]; simp [hq]
      clear HG te hq
      generalize bs q = sq at *
      generalize bs p = sp at *
      go_wp2
      go_ret2
      exact ⟨by rw [← HE.out]; rfl, HB.out⟩
    · have te' : (bs q).toList.isEmpty = false := by rw [te]; simpa using hq
      have HD := Lib.hid (fun W => divide06_any (bs p) (bs q) W (by have := (short_of HG.out.2.1).2; omega) (bs_nat q) (by have := (short_of HG.out.2.2).2; omega) (by rw [bv_bs]; exact hq))
      simp only [bv_bs] at HD
      have HG2 : Hid (Nat.gcd q (p % q) = G ∧ q < LIM ∧ p % q < LIM) := by
        obtain ⟨h1, h2, h3⟩ := HG.out
        refine ⟨?_, h3, Nat.lt_of_lt_of_le (Nat.mod_lt p (by omega)) (Nat.le_of_lt h3)⟩
        rw [← h1, Nat.gcd_comm p q, Nat.gcd_rec q p, Nat.gcd_comm]
      have HLT : Hid (natOf (.string (bs (p % q))) < natOf (.string (bs q))) := by
        show bv _ < bv _
        rw [bv_bs, bv_bs]
        exact Nat.mod_lt p (by omega)
      clear te HG hq
      go_wp2_with fail
      refine (HD.out _).mono ?_
      rintro e w1 ⟨rfl, hb1⟩
      have HB1 := Lib.hid (HB.out.trans (hb1.mono HB.out.size))
      clear hb1
      go_wp2
      exact ⟨⟨q, p % q, rfl, rfl, HG2, HB1.out⟩, HLT.out⟩

theorem int_top (s : ByteArray) (h : s.size = 8) : 9223372036854775808 ≤ bv s ↔ 128 ≤ (s[0]'(by omega)).toNat := by
  have hl : s.data.toList.length = 8 := by rw [size_eq]; exact h
  cases hc : s.data.toList with
  | nil => rw [hc] at hl; simp at hl
  | cons c t =>
    have e0 : s[0]'(by omega) = c := by
      rw [ba_get]
      simp [hc]
    have ht : t.length = 7 := by rw [hc] at hl; simpa using hl
    have hb := bval_lt t
    rw [ht] at hb
    rw [e0]
    unfold bv
    rw [hc, bval_cons, ht]
    omega

theorem of06_zero (w : World) : Calls Tryz.prog 76 #[.int .i64 0] w (Ret w (.tuple #[.string (bs 0), .int .i64 0])) := by
  have e : bs 0 = ⟨#[]⟩ := rfl
  rw [e]
  clear e
  go_enter Tryz.func76, Tryz.ntmps76
  go_wp2
  go_loopw [0, 4] (fun v s wr => v = .int .i64 0 ∧ s = .string ⟨#[]⟩ ∧ Below w.heap.size w wr) (fun _ _ _ => 0)
  case atStart => exact ⟨rfl, rfl, Below.refl _ _⟩
  case round =>
    obtain ⟨rfl, rfl, hb⟩ := hrel
    have HB := Lib.hid hb
    clear hb
    go_wp2
    go_ret2
    exact ⟨rfl, HB.out⟩

theorem of06_one (w : World) : Calls Tryz.prog 76 #[.int .i64 1] w (Ret w (.tuple #[.string (bs 1), .int .i64 0])) := by
  rw [bs_one]
  have hcv : ∀ W : World, (convert 130 9 (.slice (some ⟨W.heap.size, 0, none⟩) 1 1)).run Tryz.prog (W.alloc (.cells #[.int .u8 1] 5)) = .ok (.string ⟨#[1]⟩) (W.alloc (.cells #[.int .u8 1] 5)) := fun W => by
    have := run_convert_bytes_back (P := Tryz.prog) (W.alloc (.cells #[.int .u8 1] 5)) 130 9 5 ⟨W.heap.size, 0, none⟩ 1 [1] Tryz.underlying130 Tryz.underlying5 Tryz.underlying9 (by
      intro j hj
      have hj0 : j = 0 := by simp at hj; omega
      subst hj0
      simp [Addr.add, go_sem])
    exact this
  go_enter Tryz.func76, Tryz.ntmps76
  go_wp2
  go_loopw [0, 4] (fun v s wr => ((v = .int .i64 1 ∧ s = .string ⟨#[]⟩) ∨ (v = .int .i64 0 ∧ s = .string ⟨#[1]⟩)) ∧ Below w.heap.size w wr) (fun v _ _ => (intOf v).toNat)
  case atStart => exact ⟨.inl ⟨rfl, rfl⟩, Below.refl _ _⟩
  case round =>
    obtain ⟨⟨rfl, rfl⟩ | ⟨rfl, rfl⟩, hb⟩ := hrel
    · have HB := Lib.hid hb
      have hcv' := hcv wr
      clear hb hcv
      go_wp2
      exact ⟨⟨.inr ⟨rfl, rfl⟩, HB.out.alloc HB.out.size _⟩, by simp [intOf]⟩
    · have HB := Lib.hid hb
      clear hb
      go_wp2
      go_ret2
      exact ⟨rfl, HB.out⟩

set_option maxRecDepth 100000 in
set_option maxHeartbeats 2000000 in
theorem int06_any (s : ByteArray) (w : World) (hs : Nat' s) (hl : s.size ≤ 65536) :
    Calls Tryz.prog 105 #[.string s] w (Ret w (intV (bv s))) := by
  have HN := Lib.hid (fun W => natural_any s W)
  rw [decide_eq_true hs] at HN
  have hnot : ∀ (x : Bool) (w : World), (Op.unary .not (.bool x)).run Tryz.prog w = .ok (.bool (!x)) w := fun _ _ => rfl
  obtain ⟨n, hn⟩ : ∃ n, s.size = n := ⟨_, rfl⟩
  have hsz : (s.size : Int) = (n : Int) := by rw [hn]
  have HS := Lib.hid hs
  have HZ := Lib.hid hn
  by_cases h8 : 8 < n
  · have hv : intV (bv s) = .tuple #[.int .i64 0, .bool false] := by
      unfold intV
      rw [if_neg]
      have h1 : ∃ c t, s.data.toList = c :: t := by
        cases hc : s.data.toList with
        | nil => have := size_eq s; rw [hc] at this; simp at this; omega
        | cons c t => exact ⟨c, t, rfl⟩
      obtain ⟨c, t, e⟩ := h1
      have hs' : Canon s.data.toList := hs
      rw [e] at hs'
      have h2 := bval_ge hs'
      have h3 : 256 ^ 8 ≤ 256 ^ t.length := Nat.pow_le_pow_right (by omega) (by have := size_eq s; rw [e] at this; simp at this; omega)
      unfold bv
      rw [e]
      omega
    rw [hv]
    have t1 : decide ((8 : Int) < (n : Int)) = true := by simp; omega
    clear hv hs hl hn
    go_enter Tryz.func105, Tryz.ntmps105
    go_wp2_with fail
    refine (HN.out _).mono ?_
    rintro e w0 ⟨rfl, rfl⟩
    go_wp2
    go_ret2
    exact ⟨rfl, Below.refl _ _⟩
  · have t1 : decide ((8 : Int) < (n : Int)) = false := by simp; omega
    have hlt : bv s < 256 ^ n := by
      have := bval_lt s.data.toList
      rw [size_eq, hn] at this
      exact this
    by_cases hbig : 9223372036854775808 ≤ bv s
    · have hv : intV (bv s) = .tuple #[.int .i64 0, .bool false] := if_neg (by omega)
      have e8 : n = 8 := by
        rcases Nat.lt_or_ge n 8 with h | h
        · have : 256 ^ n ≤ 256 ^ 7 := Nat.pow_le_pow_right (by omega) (by omega)
          omega
        · omega
      have hp : 0 < s.size := by omega
      have htop := (int_top s (hn.trans e8)).1 hbig
      have hidx := run_index_str (P := Tryz.prog) Tryz.underlying9 s 0 0 rfl hp
      have HV := Lib.hid hv
      have e8' : ((n : Int) == 8) = true := by rw [e8]; rfl
      generalize (s[0]'hp).toNat = x at *
      have tx : decide ((128 : Int) ≤ (x : Int)) = true := by simp; omega
      clear hv hbig hlt hs hl hn e8 HZ HS
      go_enter Tryz.func105, Tryz.ntmps105
      go_wp2_with fail
      refine (HN.out _).mono ?_
      rintro e w0 ⟨rfl, rfl⟩
      go_wp2
      go_ret2
      exact ⟨by rw [HV.out]; rfl, Below.refl _ _⟩
    · have hv : intV (bv s) = .tuple #[.int .i64 (bv s : Int), .bool true] := if_pos (by omega)
      have HV := Lib.hid hv
      have HPR : Hid (∀ k, bval (s.data.toList.take k) ≤ bv s) := fun k => by
        have e := bval_append (s.data.toList.take k) (s.data.toList.drop k)
        rw [List.take_append_drop] at e
        have h1 : bval (s.data.toList.take k) * 1 ≤ bval (s.data.toList.take k) * 256 ^ (s.data.toList.drop k).length := Nat.mul_le_mul_left _ (Nat.pow_pos (by omega))
        unfold bv
        omega
      have hsm : bv s < 9223372036854775808 := by omega
      have HSM := Lib.hid hsm
      have key : ∀ (hp : 0 < s.size), n = 8 → ¬ 128 ≤ (s[0]'hp).toNat := fun hp e => by
        have := (int_top s (hn.trans e))
        intro h
        exact hbig (this.2 h)
      have KEY := Lib.hid key
      have HT : Hid (bval (s.data.toList.take n) = bv s) := by
        show _ = _
        rw [List.take_of_length_le (by rw [size_eq, hn]; exact Nat.le_refl _)]; rfl
      clear hv key hbig hlt hs hl hsm
      generalize bv s = bvs at *
      by_cases e8 : n = 8
      · have hp : 0 < s.size := by omega
        have hidx := run_index_str (P := Tryz.prog) Tryz.underlying9 s 0 0 rfl hp
        have hk := KEY.out hp e8
        have e8' : ((n : Int) == 8) = true := by rw [e8]; rfl
        generalize (s[0]'hp).toNat = x at *
        have tx : decide ((128 : Int) ≤ (x : Int)) = false := by simp; omega
        clear hk KEY hn
        go_enter Tryz.func105, Tryz.ntmps105
        go_wp2_with fail
        refine (HN.out _).mono ?_
        rintro e w0 ⟨rfl, rfl⟩
        clear e8
        go_wp2
        clear hidx
        go_loop [4, 5] (fun v i => ∃ k : Nat, k ≤ n ∧ i = .int .i64 k ∧ ∃ V : Nat, v = .int .i64 V ∧ Hid (bval (s.data.toList.take k) = V)) (fun _ i => n - (intOf i).toNat)
        case atStart => exact ⟨0, Nat.zero_le _, rfl, 0, rfl, rfl⟩
        case round =>
          obtain ⟨k, hk, rfl, V, rfl, HVV⟩ := hrel
          by_cases hkl : k < n
          · have xs : k < s.size := by have := HZ.out; omega
            have hidx := run_index_str (P := Tryz.prog) Tryz.underlying9 s k (k : Int) rfl xs
            have hst := bval_take_succ s.data.toList k (by rw [size_eq]; exact xs)
            have hst2 : bval (s.data.toList.take (k + 1)) = 256 * V + (s[k]'xs).toNat := by
              rw [hst, HVV.out]; rfl
            have hle := HPR.out (k + 1)
            rw [hst2] at hle
            have hsm := HSM.out
            have HS2 := Lib.hid hst2
            have hc : (s[k]'xs).toNat < 256 := UInt8.toNat_lt _
            have hw1 : IntKind.i64.wrap ((s[k]'xs).toNat : Int) = ((s[k]'xs).toNat : Int) := wrap_u8 hc
            clear hst hst2
            generalize (s[k]'xs).toNat = c at *
            have hw2 : IntKind.i64.wrap (256 * (V : Int)) = 256 * (V : Int) := by rw [IntKind.wrap_i64]; omega
            have hw3 : IntKind.i64.wrap (256 * (V : Int) + (c : Int)) = 256 * (V : Int) + (c : Int) := by rw [IntKind.wrap_i64]; omega
            go_wp2
            exact ⟨⟨k + 1, by omega, by go_num, 256 * V + c, by go_num, HS2⟩, by simp [intOf]; omega⟩
          · obtain rfl : k = n := by omega
            have HE : Hid (V = bvs) := by show V = bvs; rw [← HVV.out, HT.out]
            go_wp2
            go_ret2
            exact ⟨by rw [HV.out, HE.out]; rfl, Below.refl _ _⟩
      · have e8' : ((n : Int) == 8) = false := by rw [beq_eq_false_iff_ne]; omega
        clear KEY hn
        go_enter Tryz.func105, Tryz.ntmps105
        go_wp2_with fail
        refine (HN.out _).mono ?_
        rintro e w0 ⟨rfl, rfl⟩
        go_wp2
        go_loop [4, 5] (fun v i => ∃ k : Nat, k ≤ n ∧ i = .int .i64 k ∧ ∃ V : Nat, v = .int .i64 V ∧ Hid (bval (s.data.toList.take k) = V)) (fun _ i => n - (intOf i).toNat)
        case atStart => exact ⟨0, Nat.zero_le _, rfl, 0, rfl, rfl⟩
        case round =>
          obtain ⟨k, hk, rfl, V, rfl, HVV⟩ := hrel
          by_cases hkl : k < n
          · have xs : k < s.size := by have := HZ.out; omega
            have hidx := run_index_str (P := Tryz.prog) Tryz.underlying9 s k (k : Int) rfl xs
            have hst := bval_take_succ s.data.toList k (by rw [size_eq]; exact xs)
            have hst2 : bval (s.data.toList.take (k + 1)) = 256 * V + (s[k]'xs).toNat := by
              rw [hst, HVV.out]; rfl
            have hle := HPR.out (k + 1)
            rw [hst2] at hle
            have hsm := HSM.out
            have HS2 := Lib.hid hst2
            have hc : (s[k]'xs).toNat < 256 := UInt8.toNat_lt _
            have hw1 : IntKind.i64.wrap ((s[k]'xs).toNat : Int) = ((s[k]'xs).toNat : Int) := wrap_u8 hc
            clear hst hst2
            generalize (s[k]'xs).toNat = c at *
            have hw2 : IntKind.i64.wrap (256 * (V : Int)) = 256 * (V : Int) := by rw [IntKind.wrap_i64]; omega
            have hw3 : IntKind.i64.wrap (256 * (V : Int) + (c : Int)) = 256 * (V : Int) + (c : Int) := by rw [IntKind.wrap_i64]; omega
            go_wp2
            exact ⟨⟨k + 1, by omega, by go_num, 256 * V + c, by go_num, HS2⟩, by simp [intOf]; omega⟩
          · obtain rfl : k = n := by omega
            have HE : Hid (V = bvs) := by show V = bvs; rw [← HVV.out, HT.out]
            go_wp2
            go_ret2
            exact ⟨by rw [HV.out, HE.out]; rfl, Below.refl _ _⟩
end Go.Proofs.YtoolanjbmbcaiaaGreatDoor
namespace Go.Proofs.YtoolanjbmbcaiaaGreatDoor
open Go.RowKit Bf

/-- Digits and digits. -/
def sumL (x y : List Int) (k : Nat) : List Int := (List.range k).map fun j => x.getD j 0 + y.getD j 0
theorem sumL_succ (x y : List Int) (k : Nat) : sumL x y (k + 1) = sumL x y k ++ [x.getD k 0 + y.getD k 0] := by simp [sumL, List.range_succ]
theorem sumL_length (x y : List Int) (k : Nat) : (sumL x y k).length = k := by simp [sumL]
theorem dval_sumL (x y : List Int) : ∀ k, dval (sumL x y k) = dval (x.take k) + dval (y.take k)
  | 0 => by simp [sumL, dval]
  | k + 1 => by
    rw [sumL_succ, dval_snoc, dval_sumL x y k, sumL_length, dval_take_getD, dval_take_getD]
    grind
theorem sumL_bounds {x y : List Int} (hx : Dig x) (hy : Dig y) (k : Nat) : ∀ d ∈ sumL x y k, -1099511627776 ≤ d ∧ d ≤ 1099511627776 := by
  intro d hd
  simp only [sumL, List.mem_map] at hd
  obtain ⟨j, _, rfl⟩ := hd
  have h1 := dig_getD hx j
  have h2 := dig_getD hy j
  omega

set_option maxRecDepth 100000 in
set_option maxHeartbeats 2000000 in
theorem add06_any (a b : ByteArray) (w : World) (ha : Short a) (hb : Short b) :
    Calls Tryz.prog 77 #[.string a, .string b] w (Ret w (shortV (bv a + bv b))) := by
  obtain ⟨i0, hi0, hz0, hz1, hz2⟩ := info_parts i64_info
  obtain ⟨n, hn⟩ : ∃ n, a.size = n := ⟨_, rfl⟩
  obtain ⟨m, hm⟩ : ∃ m, b.size = m := ⟨_, rfl⟩
  have hnl := ha.2
  have hml := hb.2
  have HBO := Lib.hid (fun W => both_ok a b W ha hb)
  have HN := Lib.hid hn
  have HM := Lib.hid hm
  have HX := Lib.hid (fun W => digits_any a n W hn (by omega))
  have HY := Lib.hid (fun W => digits_any b m W hm (by omega))
  have lN : n ≤ 256 := by omega
  have lM : m ≤ 256 := by omega
  clear hn hm hnl hml ha hb
  obtain ⟨N, hN1, hN2, hN3⟩ : ∃ N : Nat, max (n : Int) (m : Int) = (N : Int) ∧ n ≤ N ∧ m ≤ N := ⟨max n m, by omega, by omega, by omega⟩
  have lNN : N ≤ 256 := by omega
  go_enter Tryz.func77, Tryz.ntmps77
  go_wp2_with fail
  refine (HBO.out _).mono ?_
  rintro e w0 ⟨rfl, rfl⟩
  go_wp2_with fail
  refine (HX.out _).mono ?_
  rintro e w1 ⟨A1, c1, rfl, hx, hb1⟩
  have X1 := Lib.hid (IntsV.of_own' hx (by rw [digL_length, size_eq, HN.out]))
  have B1 := Lib.hid hb1
  clear hx hb1
  go_wp2_with fail
  refine (HY.out _).mono ?_
  rintro e w2 ⟨A2, c2, rfl, hy, hb2⟩
  have X2 := Lib.hid (X1.out.below hb2)
  have Y2 := Lib.hid (IntsV.of_own' hy (by rw [digL_length, size_eq, HM.out]))
  have B2 := Lib.hid (B1.out.trans (hb2.mono B1.out.size))
  clear hy hb2 X1 B1
  have HXD := Lib.hid (digL_dig a.data.toList)
  have HYD := Lib.hid (digL_dig b.data.toList)
  have HXL : Hid ((digL a.data.toList).length = n) := by show _ = _; rw [digL_length, size_eq, HN.out]
  have HYL : Hid ((digL b.data.toList).length = m) := by show _ = _; rw [digL_length, size_eq, HM.out]
  have HXV : Hid (dval (digL a.data.toList) = (bv a : Int)) := dval_digL _
  have HYV : Hid (dval (digL b.data.toList) = (bv b : Int)) := dval_digL _
  generalize digL a.data.toList = xs at *
  generalize digL b.data.toList = ys at *
  generalize bv a = va at *
  generalize bv b = vb at *
  go_wp2
  go_loopw [9, 10] (fun l i wr => ∃ k : Nat, k ≤ N ∧ i = .int .i64 k ∧ (∃ A3 c3, l = .slice A3 k c3) ∧ wr.ownsRow w2.heap.size 3 1 l k (intC (sumL xs ys k)) ∧ Below w2.heap.size w2 wr) (fun _ i _ => N - (intOf i).toNat)
  case atStart => exact ⟨0, Nat.zero_le _, rfl, ⟨_, _, rfl⟩, own_empty _ _, (Below.refl _ _).alloc (Nat.le_refl _) _⟩
  case round =>
    obtain ⟨k, hk, rfl, ⟨A3, c3, rfl⟩, hown, hb⟩ := hrel
    have HO := Lib.hid hown
    have HB := Lib.hid hb
    have X3 := Lib.hid (X2.out.below hb)
    have Y3 := Lib.hid (Y2.out.below hb)
    clear hown hb
    by_cases hlt : k < N
    · have HA1 := Lib.hid (fun W h => at_any A1 n c1 k xs W h HXL.out)
      have HA2 := Lib.hid (fun W h => at_any A2 m c2 k ys W h HYL.out)
      have HS := Lib.hid (sumL_succ xs ys k)
      have b1 := dig_getD HXD.out k
      have b2 := dig_getD HYD.out k
      generalize xs.getD k 0 = p at *
      generalize ys.getD k 0 = q at *
      have yw : IntKind.i64.wrap (p + q) = p + q := by rw [IntKind.wrap_i64]; omega
      have hkN : (k : Int) < (N : Int) := by omega
      go_wp2_with fail
      refine (HA1.out _ X3.out).mono ?_
      rintro e w4 ⟨rfl, rfl⟩
      go_wp2_with fail
      refine (HA2.out _ Y3.out).mono ?_
      rintro e w4 ⟨rfl, rfl⟩
      go_wp2_with (at_builtin; refine wpList_append_any _ rfl _ _ _ rfl w2.heap.size 3 i0 _ 1 8 Tryz.underlying23 hi0 hz0 hz1 hz2 rfl (by omega) (.slice A3 k c3) k (intC (sumL xs ys k)) rfl ?_ (wr.heap.size + 1) (some ⟨wr.heap.size, 0, none⟩) 1 1 (intC [(p + q)]) rfl ?_ ?_ ?_ ?_ ?_ ?_)
      · exact own_alloc HO.out _
      · exact reads_one _ _ _
      · exact intC_one _
      · simp only [maxLen]; omega
      · omega
      · have := HB.out.size; simp; omega
      intro v5 w5 hown hg hat
      obtain ⟨A5, c5, rfl⟩ := owns_slice hown
      have HO2 : Hid (w5.ownsRow w2.heap.size 3 1 (.slice A5 (k + 1) c5) (k + 1) (intC (sumL xs ys (k + 1)))) := by
        show World.ownsRow _ _ _ _ _ _ _
        rw [HS.out]
        have := hown
        simpa [intC] using this
      have HB2 := Lib.hid (app_below2 HB.out hg (own_base HO.out))
      clear hown hg hat HO
      go_wp2
      exact ⟨⟨k + 1, by omega, by go_num, ⟨_, _, rfl⟩, HO2.out, HB2.out⟩, by simp [intOf]; omega⟩
    · obtain rfl : k = N := by omega
      have HE : Hid (dval (sumL xs ys k) = ((va + vb : Nat) : Int)) := by
        show _ = _
        rw [dval_sumL, dval_take_ge (by rw [HXL.out]; omega), dval_take_ge (by rw [HYL.out]; omega), HXV.out, HYV.out]
        omega
      have Z3 := Lib.hid (IntsV.of_own' HO.out (sumL_length _ _ _))
      have B3 := Lib.hid (B2.out.trans (HB.out.mono B2.out.size))
      have hkN : ¬ (k : Int) < (k : Int) := by omega
      go_wp2_with fail
      refine (carry_any A3 k c3 _ _ Z3.out (sumL_length _ _ _) (by omega) (sumL_bounds HXD.out HYD.out _) (by rw [HE.out]; omega)).mono ?_
      rintro e w4 ⟨A4, m4, c4, out, rfl, hm4, ho4, hown4, hd4, hv4, hb4⟩
      have B4 := Lib.hid (B3.out.trans (hb4.mono B3.out.size))
      have HV4 := Lib.hid (hv4.trans HE.out)
      have Z4 := Lib.hid (IntsV.of_own' hown4 ho4)
      clear hown4 hb4 hv4
      go_wp2_with fail
      refine (number_any A4 m4 c4 out _ Z4.out ho4 hm4 hd4).mono ?_
      rw [HV4.out, Int.toNat_natCast]
      rintro e w5 ⟨rfl, hb5⟩
      have B5 := Lib.hid (B4.out.trans (hb5.mono B4.out.size))
      clear hb5
      go_wp2_with fail
      refine (short06_any _ _).mono ?_
      rw [short_bs]
      rintro e w6 ⟨rfl, rfl⟩
      rcases shortV_two (va + vb) with h | h
      all_goals
        rw [h]
        have HH := Lib.hid h
        clear h
        go_wp2
        go_ret2
        exact ⟨by rw [HH.out]; rfl, B5.out⟩
end Go.Proofs.YtoolanjbmbcaiaaGreatDoor
namespace Go.Proofs.YtoolanjbmbcaiaaGreatDoor
open Go.RowKit Bf

set_option maxRecDepth 100000 in
set_option maxHeartbeats 2000000 in
theorem check07_any (neg : Bool) (n d : ByteArray) (w : World) :
    Calls Tryz.prog 19 #[.agg #[.bool neg, .string n, .string d]] w (Ret w (.int .i64 (rchk neg n d))) := by
  have HC1 := Lib.hid (fun W => check06_any n W)
  have HC2 := Lib.hid (fun W => check06_any d W)
  by_cases h1 : Short n
  rotate_left
  · have hv : rchk neg n d = 70 := rchk_no fun h => h1 h.1
    rw [hv]
    have t1 : (chk (fun _ => n) 1 != 0) = true := by rw [bne_iff_ne]; exact fun e => h1 ((chk1 n).1 e)
    generalize chk (fun _ => n) 1 = cn at *
    clear hv h1
    go_enter Tryz.func19, Tryz.ntmps19
    go_wp2_with fail
    refine (HC1.out _).mono ?_
    rintro e w1 ⟨rfl, rfl⟩
    go_wp2
    go_ret
    exact ⟨rfl, (Below.refl _ _).alloc (Nat.le_refl _) _⟩
  rw [(chk1 n).2 h1] at HC1
  by_cases h2 : Short d
  rotate_left
  · have hv : rchk neg n d = 70 := rchk_no fun h => h2 h.2.1
    rw [hv]
    have t2 : (chk (fun _ => d) 1 != 0) = true := by rw [bne_iff_ne]; exact fun e => h2 ((chk1 d).1 e)
    generalize chk (fun _ => d) 1 = cd at *
    clear hv h1 h2
    go_enter Tryz.func19, Tryz.ntmps19
    go_wp2_with fail
    refine (HC1.out _).mono ?_
    rintro e w1 ⟨rfl, rfl⟩
    go_wp2_with fail
    refine (HC2.out _).mono ?_
    rintro e w1 ⟨rfl, rfl⟩
    go_wp2
    go_ret
    exact ⟨rfl, (Below.refl _ _).alloc (Nat.le_refl _) _⟩
  rw [(chk1 d).2 h2] at HC2
  have hen := empty_of h1.1
  by_cases h3 : bv d = 0
  · have hv : rchk neg n d = 70 := rchk_no fun h => h.2.2.1 h3
    rw [hv]
    have te : d.toList.isEmpty = true := by rw [empty_of h2.1]; simp [h3]
    clear hv h1 h2 h3 hen
    go_enter Tryz.func19, Tryz.ntmps19
    go_wp2_with fail
    refine (HC1.out _).mono ?_
    rintro e w1 ⟨rfl, rfl⟩
    go_wp2_with fail
    refine (HC2.out _).mono ?_
    rintro e w1 ⟨rfl, rfl⟩
    go_wp2
    go_ret
    exact ⟨rfl, (Below.refl _ _).alloc (Nat.le_refl _) _⟩
  have te : d.toList.isEmpty = false := by rw [empty_of h2.1]; simp [h3]
  have HG := Lib.hid (fun W => gcd06_any n d W h1 h2)
  have hval : (neg = true ∧ bv n = 0 ∧ rchk neg n d = 70) ∨ ((neg = false ∨ (neg = true ∧ bv n ≠ 0)) ∧ ((Nat.gcd (bv n) (bv d) ≠ 1 ∧ rchk neg n d = 70) ∨ (Nat.gcd (bv n) (bv d) = 1 ∧ rchk neg n d = 0))) := by
    by_cases h4 : neg = true ∧ bv n = 0
    · exact .inl ⟨h4.1, h4.2, rchk_no fun h => h.2.2.2.2 h4.1 h4.2⟩
    · refine .inr ⟨?_, ?_⟩
      · cases neg with
        | false => exact .inl rfl
        | true => exact .inr ⟨rfl, fun e => h4 ⟨rfl, e⟩⟩
      · by_cases h5 : Nat.gcd (bv n) (bv d) = 1
        · exact .inr ⟨h5, rchk_ok ⟨h1, h2, h3, h5, fun e e' => h4 ⟨e, e'⟩⟩⟩
        · exact .inl ⟨h5, rchk_no fun h => h5 h.2.2.2.1⟩
  generalize rchk neg n d = rv at *
  generalize bv n = vn at *
  generalize bv d = vd at *
  generalize Nat.gcd vn vd = g at *
  have tg : g ≠ 1 → ¬ (bs g).toList = [1] := fun hg e => hg (benc_inj (by rw [Lib.toList_data] at e; exact e))
  have HTG := Lib.hid tg
  clear h1 h2 h3 tg
  rcases hval with ⟨rfl, hn0, rfl⟩ | ⟨rfl | ⟨rfl, hn0⟩, ⟨hg, rfl⟩ | ⟨rfl, rfl⟩⟩
  · simp only [hn0, decide_true] at hen
    clear hn0
    go_enter Tryz.func19, Tryz.ntmps19
    go_wp2_with fail
    refine (HC1.out _).mono ?_
    rintro e w1 ⟨rfl, rfl⟩
    go_wp2_with fail
    refine (HC2.out _).mono ?_
    rintro e w1 ⟨rfl, rfl⟩
    go_wp2
    go_ret
    exact ⟨rfl, (Below.refl _ _).alloc (Nat.le_refl _) _⟩
  · have tg := HTG.out hg
    generalize bs g = sg at *
    have tgb : (sg.toList == [1]) = false := by rw [beq_eq_false_iff_ne]; exact tg
    clear hen HTG tg
    go_enter Tryz.func19, Tryz.ntmps19
    go_wp2_with fail
    refine (HC1.out _).mono ?_
    rintro e w1 ⟨rfl, rfl⟩
    go_wp2_with fail
    refine (HC2.out _).mono ?_
    rintro e w1 ⟨rfl, rfl⟩
    go_wp2_with fail
    refine (HG.out _).mono ?_
    rintro e w2 ⟨rfl, hb2⟩
    have HB2 := Lib.hid (((Below.refl w.heap.size w).alloc (Nat.le_refl _) (.cells #[.bool false, .string n, .string d] 25)).trans (hb2.mono (by simp)))
    clear hb2
    go_wp2
    go_ret
    exact ⟨rfl, HB2.out⟩
  · rw [bs_one] at HG
    clear hen HTG
    go_enter Tryz.func19, Tryz.ntmps19
    go_wp2_with fail
    refine (HC1.out _).mono ?_
    rintro e w1 ⟨rfl, rfl⟩
    go_wp2_with fail
    refine (HC2.out _).mono ?_
    rintro e w1 ⟨rfl, rfl⟩
    go_wp2_with fail
    refine (HG.out _).mono ?_
    rintro e w2 ⟨rfl, hb2⟩
    have HB2 := Lib.hid (((Below.refl w.heap.size w).alloc (Nat.le_refl _) (.cells #[.bool false, .string n, .string d] 25)).trans (hb2.mono (by simp)))
    clear hb2
    go_wp2
    go_ret
    exact ⟨rfl, HB2.out⟩
  · have tg := HTG.out hg
    simp only [hn0, decide_false] at hen
    generalize bs g = sg at *
    have tgb : (sg.toList == [1]) = false := by rw [beq_eq_false_iff_ne]; exact tg
    clear HTG hn0 tg
    go_enter Tryz.func19, Tryz.ntmps19
    go_wp2_with fail
    refine (HC1.out _).mono ?_
    rintro e w1 ⟨rfl, rfl⟩
    go_wp2_with fail
    refine (HC2.out _).mono ?_
    rintro e w1 ⟨rfl, rfl⟩
    go_wp2_with fail
    refine (HG.out _).mono ?_
    rintro e w2 ⟨rfl, hb2⟩
    have HB2 := Lib.hid (((Below.refl w.heap.size w).alloc (Nat.le_refl _) (.cells #[.bool true, .string n, .string d] 25)).trans (hb2.mono (by simp)))
    clear hb2
    go_wp2
    go_ret
    exact ⟨rfl, HB2.out⟩
  · rw [bs_one] at HG
    simp only [hn0, decide_false] at hen
    clear HTG hn0
    go_enter Tryz.func19, Tryz.ntmps19
    go_wp2_with fail
    refine (HC1.out _).mono ?_
    rintro e w1 ⟨rfl, rfl⟩
    go_wp2_with fail
    refine (HC2.out _).mono ?_
    rintro e w1 ⟨rfl, rfl⟩
    go_wp2_with fail
    refine (HG.out _).mono ?_
    rintro e w2 ⟨rfl, hb2⟩
    have HB2 := Lib.hid (((Below.refl w.heap.size w).alloc (Nat.le_refl _) (.cells #[.bool true, .string n, .string d] 25)).trans (hb2.mono (by simp)))
    clear hb2
    go_wp2
    go_ret
    exact ⟨rfl, HB2.out⟩

set_option maxRecDepth 100000 in
set_option maxHeartbeats 2000000 in
theorem lowest07_any (neg : Bool) (n d : Nat) (w : World) (hn : n < LIM) (hd : d < LIM) (h0 : 0 < d) :
    Calls Tryz.prog 47 #[.bool neg, .string (bs n), .string (bs d)] w (Ret w (ratV (lowR neg n d))) := by
  by_cases hz : n = 0
  · subst hz
    have hv : ratV (lowR neg 0 d) = .agg #[.bool false, .string ⟨#[]⟩, .string ⟨#[1]⟩] := by
      unfold ratV lowR
      have e1 : (neg && (0 : Nat) != 0) = false := by simp
      have e2 : d / Nat.gcd 0 d = 1 := by rw [Nat.gcd_zero_left]; exact Nat.div_self h0
      simp only [e1, e2, Nat.zero_div]
      rfl
    have te : (bs 0).toList.isEmpty = true := by rw [bs_isEmpty]; rfl
    rw [hv]
    clear hv hn hd h0
    generalize bs d = sd at *
    generalize bs 0 = s0 at *
    go_enter Tryz.func47, Tryz.ntmps47
    go_wp2
    exact bodyPost_ret (v := .agg #[.bool false, .string ⟨#[]⟩, .string ⟨#[1]⟩]) (by simp [results, Tryz.results47, go_sem]) rfl ⟨rfl, (((Below.refl _ _).alloc (Nat.le_refl _) _))⟩
  · have te : (bs n).toList.isEmpty = false := by rw [bs_isEmpty]; simpa using hz
    have hg : 0 < Nat.gcd n d := Nat.gcd_pos_of_pos_right n h0
    have hgl : Nat.gcd n d < LIM := Nat.lt_of_le_of_lt (Nat.gcd_le_right n h0) hd
    have HG := Lib.hid (fun W => gcd06_any (bs n) (bs d) W (short_of hn) (short_of hd))
    have HD1 := Lib.hid (fun W => div06_any (bs n) (bs (Nat.gcd n d)) W (short_of hn) (short_of hgl) (by rw [bv_bs]; omega))
    have HD2 := Lib.hid (fun W => div06_any (bs d) (bs (Nat.gcd n d)) W (short_of hd) (short_of hgl) (by rw [bv_bs]; omega))
    simp only [bv_bs] at HG HD1 HD2
    have hv : ratV (lowR neg n d) = .agg #[.bool neg, .string (bs (n / Nat.gcd n d)), .string (bs (d / Nat.gcd n d))] := by
      have e1 : (neg && n != 0) = neg := by simp [hz]
      unfold ratV lowR
      simp only [e1]
    rw [hv]
    clear hv hn hd h0 hg hgl hz
    generalize bs (n / Nat.gcd n d) = sn at *
    generalize bs (d / Nat.gcd n d) = sd at *
    generalize bs (n % Nat.gcd n d) = rn at *
    generalize bs (d % Nat.gcd n d) = rd at *
    generalize bs (Nat.gcd n d) = sg at *
    generalize bs n = xn at *
    generalize bs d = xd at *
    go_enter Tryz.func47, Tryz.ntmps47
    go_wp2_with fail
    refine (HG.out _).mono ?_
    rintro e w1 ⟨rfl, hb1⟩
    have h1 : w.heap.size < w1.heap.size := by have := hb1.size; simp at this; omega
    have K1 := Lib.hid ((Blk.new w [.bool false, .string ⟨#[]⟩, .string ⟨#[]⟩] 25).below hb1 (by simp))
    have HB1 := Lib.hid (((Below.refl w.heap.size w).alloc (Nat.le_refl _) _).trans (hb1.mono (by simp)))
    clear hb1
    go_wp2_with fail
    refine (HD1.out _).mono ?_
    rintro e w2 ⟨rfl, hb2⟩
    have K2 := Lib.hid (K1.out.below hb2 h1)
    have HB2 := Lib.hid (HB1.out.trans (hb2.mono (by omega)))
    have h2 : w.heap.size < w2.heap.size := by have := hb2.size; omega
    clear hb2 K1 HB1 h1
    go_wp2_with fail
    refine (HD2.out _).mono ?_
    rintro e w3 ⟨rfl, hb3⟩
    have K3 := Lib.hid (K2.out.below hb3 h2)
    have HB3 := Lib.hid (HB2.out.trans (hb3.mono (by omega)))
    clear hb3 K2 HB2 h2
    obtain ⟨q0, f0⟩ := K3.out.at 0 _ rfl
    obtain ⟨q1, f1⟩ := K3.out.at 1 _ rfl
    obtain ⟨q2, f2⟩ := K3.out.at 2 _ rfl
    go_wp2
    refine bodyPost_ret (v := .agg #[.bool neg, .string sn, .string sd]) (by simp [results, Tryz.results47, go_sem, q0, q1, q2]) rfl ⟨rfl, ?_⟩
    exact ((HB3.out.setCell (by simp) _).setCell (by simp) _).setCell (by simp) _
end Go.Proofs.YtoolanjbmbcaiaaGreatDoor
namespace Go.Proofs.YtoolanjbmbcaiaaGreatDoor
open Go.RowKit Bf

set_option maxRecDepth 100000 in
set_option maxHeartbeats 4000000 in
theorem mul07_ok (a b : Rt) (w : World) (ha : a.ok) (hb : b.ok) (h1 : a.n * b.n < LIM) (h2 : a.d * b.d < LIM) :
    Calls Tryz.prog 23 #[ratV a, ratV b] w (Ret w (.tuple #[ratV (lowR (a.neg != b.neg) (a.n * b.n) (a.d * b.d)), .int .i64 0])) := by
  have HC1 := Lib.hid (fun W => check07_any a.neg (bs a.n) (bs a.d) W)
  have HC2 := Lib.hid (fun W => check07_any b.neg (bs b.n) (bs b.d) W)
  rw [rchk_ok (RatS.of ha)] at HC1
  rw [rchk_ok (RatS.of hb)] at HC2
  have HM1 := Lib.hid (fun W => mul06_any (bs a.n) (bs b.n) W (short_of ha.1) (short_of hb.1))
  have HM2 := Lib.hid (fun W => mul06_any (bs a.d) (bs b.d) W (short_of ha.2.1) (short_of hb.2.1))
  simp only [bv_bs] at HM1 HM2
  have e1 : shortV (a.n * b.n) = .tuple #[.string (bs (a.n * b.n)), .int .i64 0] := if_pos h1
  have e2 : shortV (a.d * b.d) = .tuple #[.string (bs (a.d * b.d)), .int .i64 0] := if_pos h2
  rw [e1] at HM1
  rw [e2] at HM2
  have HL := Lib.hid (fun W => lowest07_any (a.neg != b.neg) (a.n * b.n) (a.d * b.d) W h1 h2 (Nat.mul_pos ha.2.2.1 hb.2.2.1))
  clear e1 e2
  unfold ratV at *
  obtain ⟨an, x, y⟩ := a
  obtain ⟨bn, x', y'⟩ := b
  simp only at *
  generalize lowR (an != bn) (x * x') (y * y') = rr at *
  clear ha hb h1 h2
  generalize bs (x * x') = sx at *
  generalize bs (y * y') = sy at *
  generalize bs x = xn at *
  generalize bs y = xd at *
  generalize bs x' = yn at *
  generalize bs y' = yd at *
  go_enter Tryz.func23, Tryz.ntmps23
  have K : Hid (Blk (w.alloc (.cells #[.bool an, .string xn, .string xd] 25)) (w.heap.size) [.bool an, .string xn, .string xd] 25) := by
    have := Blk.new w [.bool an, .string xn, .string xd] 25
    exact this
  have M : Hid (Blk ((w.alloc (.cells #[.bool an, .string xn, .string xd] 25)).alloc (.cells #[.bool bn, .string yn, .string yd] 25)) (w.heap.size + 1) [.bool bn, .string yn, .string yd] 25) := by
    have := Blk.new (w.alloc (.cells #[.bool an, .string xn, .string xd] 25)) [.bool bn, .string yn, .string yd] 25
    rwa [World.size_alloc] at this
  have R : Hid (Blk (((w.alloc (.cells #[.bool an, .string xn, .string xd] 25)).alloc (.cells #[.bool bn, .string yn, .string yd] 25)).alloc (.cells #[.bool false, .string ⟨#[]⟩, .string ⟨#[]⟩] 25)) (w.heap.size + 1 + 1) [.bool false, .string ⟨#[]⟩, .string ⟨#[]⟩] 25) := by
    have := Blk.new ((w.alloc (.cells #[.bool an, .string xn, .string xd] 25)).alloc (.cells #[.bool bn, .string yn, .string yd] 25)) [.bool false, .string ⟨#[]⟩, .string ⟨#[]⟩] 25
    rwa [World.size_alloc, World.size_alloc] at this
  go_wp2_with fail
  refine (HC1.out _).mono ?_
  rintro e w1 ⟨rfl, hb⟩
  have HB_1 := Lib.hid (((((Below.refl w.heap.size w).alloc (Below.refl w.heap.size w).size (.cells #[.bool an, .string xn, .string xd] 25)).alloc ((Below.refl w.heap.size w).alloc (Below.refl w.heap.size w).size (.cells #[.bool an, .string xn, .string xd] 25)).size (.cells #[.bool bn, .string yn, .string yd] 25)).alloc (((Below.refl w.heap.size w).alloc (Below.refl w.heap.size w).size (.cells #[.bool an, .string xn, .string xd] 25)).alloc ((Below.refl w.heap.size w).alloc (Below.refl w.heap.size w).size (.cells #[.bool an, .string xn, .string xd] 25)).size (.cells #[.bool bn, .string yn, .string yd] 25)).size (.cells #[.bool false, .string ⟨#[]⟩, .string ⟨#[]⟩] 25)).trans (hb.mono ((((Below.refl w.heap.size w).alloc (Below.refl w.heap.size w).size (.cells #[.bool an, .string xn, .string xd] 25)).alloc ((Below.refl w.heap.size w).alloc (Below.refl w.heap.size w).size (.cells #[.bool an, .string xn, .string xd] 25)).size (.cells #[.bool bn, .string yn, .string yd] 25)).alloc (((Below.refl w.heap.size w).alloc (Below.refl w.heap.size w).size (.cells #[.bool an, .string xn, .string xd] 25)).alloc ((Below.refl w.heap.size w).alloc (Below.refl w.heap.size w).size (.cells #[.bool an, .string xn, .string xd] 25)).size (.cells #[.bool bn, .string yn, .string yd] 25)).size (.cells #[.bool false, .string ⟨#[]⟩, .string ⟨#[]⟩] 25)).size))
  have K_1 := Lib.hid (((K.out.alloc (.cells #[.bool bn, .string yn, .string yd] 25)).alloc (.cells #[.bool false, .string ⟨#[]⟩, .string ⟨#[]⟩] 25)).below hb ((K.out.alloc (.cells #[.bool bn, .string yn, .string yd] 25)).alloc (.cells #[.bool false, .string ⟨#[]⟩, .string ⟨#[]⟩] 25)).lt)
  have M_1 := Lib.hid ((M.out.alloc (.cells #[.bool false, .string ⟨#[]⟩, .string ⟨#[]⟩] 25)).below hb (M.out.alloc (.cells #[.bool false, .string ⟨#[]⟩, .string ⟨#[]⟩] 25)).lt)
  have R_1 := Lib.hid (R.out.below hb R.out.lt)
  clear hb
  obtain ⟨q0, qf0⟩ := K_1.out.at 0 _ rfl
  obtain ⟨q1, qf1⟩ := K_1.out.at 1 _ rfl
  obtain ⟨q2, qf2⟩ := K_1.out.at 2 _ rfl
  have hq := K_1.out.lt
  obtain ⟨p0, pf0⟩ := M_1.out.at 0 _ rfl
  obtain ⟨p1, pf1⟩ := M_1.out.at 1 _ rfl
  obtain ⟨p2, pf2⟩ := M_1.out.at 2 _ rfl
  have hp := M_1.out.lt
  obtain ⟨r0, rf0⟩ := R_1.out.at 0 _ rfl
  obtain ⟨r1, rf1⟩ := R_1.out.at 1 _ rfl
  obtain ⟨r2, rf2⟩ := R_1.out.at 2 _ rfl
  have hr := R_1.out.lt
  go_wp2_with fail
  refine (HC2.out _).mono ?_
  rintro e w2 ⟨rfl, hb⟩
  have HB_2 := Lib.hid (HB_1.out.trans (hb.mono HB_1.out.size))
  have K_2 := Lib.hid (K_1.out.below hb K_1.out.lt)
  have M_2 := Lib.hid (M_1.out.below hb M_1.out.lt)
  have R_2 := Lib.hid (R_1.out.below hb R_1.out.lt)
  clear hb
  clear q0 q1 q2 hq qf0 qf1 qf2
  clear p0 p1 p2 hp pf0 pf1 pf2
  clear r0 r1 r2 hr rf0 rf1 rf2
  obtain ⟨q0, qf0⟩ := K_2.out.at 0 _ rfl
  obtain ⟨q1, qf1⟩ := K_2.out.at 1 _ rfl
  obtain ⟨q2, qf2⟩ := K_2.out.at 2 _ rfl
  have hq := K_2.out.lt
  obtain ⟨p0, pf0⟩ := M_2.out.at 0 _ rfl
  obtain ⟨p1, pf1⟩ := M_2.out.at 1 _ rfl
  obtain ⟨p2, pf2⟩ := M_2.out.at 2 _ rfl
  have hp := M_2.out.lt
  obtain ⟨r0, rf0⟩ := R_2.out.at 0 _ rfl
  obtain ⟨r1, rf1⟩ := R_2.out.at 1 _ rfl
  obtain ⟨r2, rf2⟩ := R_2.out.at 2 _ rfl
  have hr := R_2.out.lt
  go_wp2_with fail
  refine (HM1.out _).mono ?_
  rintro e w3 ⟨rfl, hb⟩
  have HB_3 := Lib.hid (HB_2.out.trans (hb.mono HB_2.out.size))
  have K_3 := Lib.hid (K_2.out.below hb K_2.out.lt)
  have M_3 := Lib.hid (M_2.out.below hb M_2.out.lt)
  have R_3 := Lib.hid (R_2.out.below hb R_2.out.lt)
  clear hb
  clear q0 q1 q2 hq qf0 qf1 qf2
  clear p0 p1 p2 hp pf0 pf1 pf2
  clear r0 r1 r2 hr rf0 rf1 rf2
  obtain ⟨q0, qf0⟩ := K_3.out.at 0 _ rfl
  obtain ⟨q1, qf1⟩ := K_3.out.at 1 _ rfl
  obtain ⟨q2, qf2⟩ := K_3.out.at 2 _ rfl
  have hq := K_3.out.lt
  obtain ⟨p0, pf0⟩ := M_3.out.at 0 _ rfl
  obtain ⟨p1, pf1⟩ := M_3.out.at 1 _ rfl
  obtain ⟨p2, pf2⟩ := M_3.out.at 2 _ rfl
  have hp := M_3.out.lt
  obtain ⟨r0, rf0⟩ := R_3.out.at 0 _ rfl
  obtain ⟨r1, rf1⟩ := R_3.out.at 1 _ rfl
  obtain ⟨r2, rf2⟩ := R_3.out.at 2 _ rfl
  have hr := R_3.out.lt
  go_wp2_with fail
  refine (HM2.out _).mono ?_
  rintro e w4 ⟨rfl, hb⟩
  have HB_4 := Lib.hid (HB_3.out.trans (hb.mono HB_3.out.size))
  have K_4 := Lib.hid (K_3.out.below hb K_3.out.lt)
  have M_4 := Lib.hid (M_3.out.below hb M_3.out.lt)
  have R_4 := Lib.hid (R_3.out.below hb R_3.out.lt)
  clear hb
  clear q0 q1 q2 hq qf0 qf1 qf2
  clear p0 p1 p2 hp pf0 pf1 pf2
  clear r0 r1 r2 hr rf0 rf1 rf2
  obtain ⟨q0, qf0⟩ := K_4.out.at 0 _ rfl
  obtain ⟨q1, qf1⟩ := K_4.out.at 1 _ rfl
  obtain ⟨q2, qf2⟩ := K_4.out.at 2 _ rfl
  have hq := K_4.out.lt
  obtain ⟨p0, pf0⟩ := M_4.out.at 0 _ rfl
  obtain ⟨p1, pf1⟩ := M_4.out.at 1 _ rfl
  obtain ⟨p2, pf2⟩ := M_4.out.at 2 _ rfl
  have hp := M_4.out.lt
  obtain ⟨r0, rf0⟩ := R_4.out.at 0 _ rfl
  obtain ⟨r1, rf1⟩ := R_4.out.at 1 _ rfl
  obtain ⟨r2, rf2⟩ := R_4.out.at 2 _ rfl
  have hr := R_4.out.lt
  go_wp2_with fail
  refine (HL.out _).mono ?_
  rintro e w5 ⟨rfl, hb⟩
  have HB_5 := Lib.hid (HB_4.out.trans (hb.mono HB_4.out.size))
  have K_5 := Lib.hid (K_4.out.below hb K_4.out.lt)
  have M_5 := Lib.hid (M_4.out.below hb M_4.out.lt)
  have R_5 := Lib.hid (R_4.out.below hb R_4.out.lt)
  clear hb
  clear q0 q1 q2 hq qf0 qf1 qf2
  clear p0 p1 p2 hp pf0 pf1 pf2
  clear r0 r1 r2 hr rf0 rf1 rf2
  obtain ⟨q0, qf0⟩ := K_5.out.at 0 _ rfl
  obtain ⟨q1, qf1⟩ := K_5.out.at 1 _ rfl
  obtain ⟨q2, qf2⟩ := K_5.out.at 2 _ rfl
  have hq := K_5.out.lt
  obtain ⟨p0, pf0⟩ := M_5.out.at 0 _ rfl
  obtain ⟨p1, pf1⟩ := M_5.out.at 1 _ rfl
  obtain ⟨p2, pf2⟩ := M_5.out.at 2 _ rfl
  have hp := M_5.out.lt
  obtain ⟨r0, rf0⟩ := R_5.out.at 0 _ rfl
  obtain ⟨r1, rf1⟩ := R_5.out.at 1 _ rfl
  obtain ⟨r2, rf2⟩ := R_5.out.at 2 _ rfl
  have hr := R_5.out.lt
  go_wp2
  refine bodyPost_ret (v := .tuple #[.agg #[.bool rr.neg, .string (bs rr.n), .string (bs rr.d)], .int .i64 0]) (by simp [results, Tryz.results23, go_sem, r0, r1, r2]) rfl ⟨rfl, ?_⟩
  exact ((HB_5.out.setCell (by simp; omega) _).setCell (by simp; omega) _).setCell (by simp; omega) _


set_option maxRecDepth 100000 in
set_option maxHeartbeats 4000000 in
theorem mul07_no1 (a b : Rt) (w : World) (ha : a.ok) (hb : b.ok) (h1 : ¬ a.n * b.n < LIM) :
    Calls Tryz.prog 23 #[ratV a, ratV b] w (Ret w (limV 2)) := by
  have HC1 := Lib.hid (fun W => check07_any a.neg (bs a.n) (bs a.d) W)
  have HC2 := Lib.hid (fun W => check07_any b.neg (bs b.n) (bs b.d) W)
  rw [rchk_ok (RatS.of ha)] at HC1
  rw [rchk_ok (RatS.of hb)] at HC2
  have HM1 := Lib.hid (fun W => mul06_any (bs a.n) (bs b.n) W (short_of ha.1) (short_of hb.1))
  have HM2 := Lib.hid (fun W => mul06_any (bs a.d) (bs b.d) W (short_of ha.2.1) (short_of hb.2.1))
  simp only [bv_bs] at HM1 HM2
  have e1 : shortV (a.n * b.n) = .tuple #[.string ⟨#[]⟩, .int .i64 2] := if_neg h1
  rw [e1] at HM1
  clear e1
  unfold ratV at *
  obtain ⟨an, x, y⟩ := a
  obtain ⟨bn, x', y'⟩ := b
  simp only at *
  obtain ⟨s2, k2, e2⟩ : ∃ s k, shortV (y * y') = .tuple #[.string s, .int .i64 k] := by unfold shortV; split; exact ⟨_, _, rfl⟩; exact ⟨_, _, rfl⟩
  rw [e2] at HM2
  clear e2
  clear ha hb h1
  generalize bs x = xn at *
  generalize bs y = xd at *
  generalize bs x' = yn at *
  generalize bs y' = yd at *
  go_enter Tryz.func23, Tryz.ntmps23
  have K : Hid (Blk (w.alloc (.cells #[.bool an, .string xn, .string xd] 25)) (w.heap.size) [.bool an, .string xn, .string xd] 25) := by
    have := Blk.new w [.bool an, .string xn, .string xd] 25
    exact this
  have M : Hid (Blk ((w.alloc (.cells #[.bool an, .string xn, .string xd] 25)).alloc (.cells #[.bool bn, .string yn, .string yd] 25)) (w.heap.size + 1) [.bool bn, .string yn, .string yd] 25) := by
    have := Blk.new (w.alloc (.cells #[.bool an, .string xn, .string xd] 25)) [.bool bn, .string yn, .string yd] 25
    rwa [World.size_alloc] at this
  have R : Hid (Blk (((w.alloc (.cells #[.bool an, .string xn, .string xd] 25)).alloc (.cells #[.bool bn, .string yn, .string yd] 25)).alloc (.cells #[.bool false, .string ⟨#[]⟩, .string ⟨#[]⟩] 25)) (w.heap.size + 1 + 1) [.bool false, .string ⟨#[]⟩, .string ⟨#[]⟩] 25) := by
    have := Blk.new ((w.alloc (.cells #[.bool an, .string xn, .string xd] 25)).alloc (.cells #[.bool bn, .string yn, .string yd] 25)) [.bool false, .string ⟨#[]⟩, .string ⟨#[]⟩] 25
    rwa [World.size_alloc, World.size_alloc] at this
  go_wp2_with fail
  refine (HC1.out _).mono ?_
  rintro e w1 ⟨rfl, hb⟩
  have HB_1 := Lib.hid (((((Below.refl w.heap.size w).alloc (Below.refl w.heap.size w).size (.cells #[.bool an, .string xn, .string xd] 25)).alloc ((Below.refl w.heap.size w).alloc (Below.refl w.heap.size w).size (.cells #[.bool an, .string xn, .string xd] 25)).size (.cells #[.bool bn, .string yn, .string yd] 25)).alloc (((Below.refl w.heap.size w).alloc (Below.refl w.heap.size w).size (.cells #[.bool an, .string xn, .string xd] 25)).alloc ((Below.refl w.heap.size w).alloc (Below.refl w.heap.size w).size (.cells #[.bool an, .string xn, .string xd] 25)).size (.cells #[.bool bn, .string yn, .string yd] 25)).size (.cells #[.bool false, .string ⟨#[]⟩, .string ⟨#[]⟩] 25)).trans (hb.mono ((((Below.refl w.heap.size w).alloc (Below.refl w.heap.size w).size (.cells #[.bool an, .string xn, .string xd] 25)).alloc ((Below.refl w.heap.size w).alloc (Below.refl w.heap.size w).size (.cells #[.bool an, .string xn, .string xd] 25)).size (.cells #[.bool bn, .string yn, .string yd] 25)).alloc (((Below.refl w.heap.size w).alloc (Below.refl w.heap.size w).size (.cells #[.bool an, .string xn, .string xd] 25)).alloc ((Below.refl w.heap.size w).alloc (Below.refl w.heap.size w).size (.cells #[.bool an, .string xn, .string xd] 25)).size (.cells #[.bool bn, .string yn, .string yd] 25)).size (.cells #[.bool false, .string ⟨#[]⟩, .string ⟨#[]⟩] 25)).size))
  have K_1 := Lib.hid (((K.out.alloc (.cells #[.bool bn, .string yn, .string yd] 25)).alloc (.cells #[.bool false, .string ⟨#[]⟩, .string ⟨#[]⟩] 25)).below hb ((K.out.alloc (.cells #[.bool bn, .string yn, .string yd] 25)).alloc (.cells #[.bool false, .string ⟨#[]⟩, .string ⟨#[]⟩] 25)).lt)
  have M_1 := Lib.hid ((M.out.alloc (.cells #[.bool false, .string ⟨#[]⟩, .string ⟨#[]⟩] 25)).below hb (M.out.alloc (.cells #[.bool false, .string ⟨#[]⟩, .string ⟨#[]⟩] 25)).lt)
  have R_1 := Lib.hid (R.out.below hb R.out.lt)
  clear hb
  obtain ⟨q0, qf0⟩ := K_1.out.at 0 _ rfl
  obtain ⟨q1, qf1⟩ := K_1.out.at 1 _ rfl
  obtain ⟨q2, qf2⟩ := K_1.out.at 2 _ rfl
  have hq := K_1.out.lt
  obtain ⟨p0, pf0⟩ := M_1.out.at 0 _ rfl
  obtain ⟨p1, pf1⟩ := M_1.out.at 1 _ rfl
  obtain ⟨p2, pf2⟩ := M_1.out.at 2 _ rfl
  have hp := M_1.out.lt
  obtain ⟨r0, rf0⟩ := R_1.out.at 0 _ rfl
  obtain ⟨r1, rf1⟩ := R_1.out.at 1 _ rfl
  obtain ⟨r2, rf2⟩ := R_1.out.at 2 _ rfl
  have hr := R_1.out.lt
  go_wp2_with fail
  refine (HC2.out _).mono ?_
  rintro e w2 ⟨rfl, hb⟩
  have HB_2 := Lib.hid (HB_1.out.trans (hb.mono HB_1.out.size))
  have K_2 := Lib.hid (K_1.out.below hb K_1.out.lt)
  have M_2 := Lib.hid (M_1.out.below hb M_1.out.lt)
  have R_2 := Lib.hid (R_1.out.below hb R_1.out.lt)
  clear hb
  clear q0 q1 q2 hq qf0 qf1 qf2
  clear p0 p1 p2 hp pf0 pf1 pf2
  clear r0 r1 r2 hr rf0 rf1 rf2
  obtain ⟨q0, qf0⟩ := K_2.out.at 0 _ rfl
  obtain ⟨q1, qf1⟩ := K_2.out.at 1 _ rfl
  obtain ⟨q2, qf2⟩ := K_2.out.at 2 _ rfl
  have hq := K_2.out.lt
  obtain ⟨p0, pf0⟩ := M_2.out.at 0 _ rfl
  obtain ⟨p1, pf1⟩ := M_2.out.at 1 _ rfl
  obtain ⟨p2, pf2⟩ := M_2.out.at 2 _ rfl
  have hp := M_2.out.lt
  obtain ⟨r0, rf0⟩ := R_2.out.at 0 _ rfl
  obtain ⟨r1, rf1⟩ := R_2.out.at 1 _ rfl
  obtain ⟨r2, rf2⟩ := R_2.out.at 2 _ rfl
  have hr := R_2.out.lt
  go_wp2_with fail
  refine (HM1.out _).mono ?_
  rintro e w3 ⟨rfl, hb⟩
  have HB_3 := Lib.hid (HB_2.out.trans (hb.mono HB_2.out.size))
  have K_3 := Lib.hid (K_2.out.below hb K_2.out.lt)
  have M_3 := Lib.hid (M_2.out.below hb M_2.out.lt)
  have R_3 := Lib.hid (R_2.out.below hb R_2.out.lt)
  clear hb
  clear q0 q1 q2 hq qf0 qf1 qf2
  clear p0 p1 p2 hp pf0 pf1 pf2
  clear r0 r1 r2 hr rf0 rf1 rf2
  obtain ⟨q0, qf0⟩ := K_3.out.at 0 _ rfl
  obtain ⟨q1, qf1⟩ := K_3.out.at 1 _ rfl
  obtain ⟨q2, qf2⟩ := K_3.out.at 2 _ rfl
  have hq := K_3.out.lt
  obtain ⟨p0, pf0⟩ := M_3.out.at 0 _ rfl
  obtain ⟨p1, pf1⟩ := M_3.out.at 1 _ rfl
  obtain ⟨p2, pf2⟩ := M_3.out.at 2 _ rfl
  have hp := M_3.out.lt
  obtain ⟨r0, rf0⟩ := R_3.out.at 0 _ rfl
  obtain ⟨r1, rf1⟩ := R_3.out.at 1 _ rfl
  obtain ⟨r2, rf2⟩ := R_3.out.at 2 _ rfl
  have hr := R_3.out.lt
  go_wp2_with fail
  refine (HM2.out _).mono ?_
  rintro e w4 ⟨rfl, hb⟩
  have HB_4 := Lib.hid (HB_3.out.trans (hb.mono HB_3.out.size))
  have K_4 := Lib.hid (K_3.out.below hb K_3.out.lt)
  have M_4 := Lib.hid (M_3.out.below hb M_3.out.lt)
  have R_4 := Lib.hid (R_3.out.below hb R_3.out.lt)
  clear hb
  clear q0 q1 q2 hq qf0 qf1 qf2
  clear p0 p1 p2 hp pf0 pf1 pf2
  clear r0 r1 r2 hr rf0 rf1 rf2
  obtain ⟨q0, qf0⟩ := K_4.out.at 0 _ rfl
  obtain ⟨q1, qf1⟩ := K_4.out.at 1 _ rfl
  obtain ⟨q2, qf2⟩ := K_4.out.at 2 _ rfl
  have hq := K_4.out.lt
  obtain ⟨p0, pf0⟩ := M_4.out.at 0 _ rfl
  obtain ⟨p1, pf1⟩ := M_4.out.at 1 _ rfl
  obtain ⟨p2, pf2⟩ := M_4.out.at 2 _ rfl
  have hp := M_4.out.lt
  obtain ⟨r0, rf0⟩ := R_4.out.at 0 _ rfl
  obtain ⟨r1, rf1⟩ := R_4.out.at 1 _ rfl
  obtain ⟨r2, rf2⟩ := R_4.out.at 2 _ rfl
  have hr := R_4.out.lt
  go_wp2
  refine bodyPost_ret (v := limV 2) (by simp [results, Tryz.results23, go_sem, r0, r1, r2, limV]) rfl ⟨rfl, ?_⟩
  exact ((HB_4.out.setCell (by simp; omega) _).setCell (by simp; omega) _).setCell (by simp; omega) _


set_option maxRecDepth 100000 in
set_option maxHeartbeats 4000000 in
theorem mul07_no2 (a b : Rt) (w : World) (ha : a.ok) (hb : b.ok) (h1 : a.n * b.n < LIM) (h2 : ¬ a.d * b.d < LIM) :
    Calls Tryz.prog 23 #[ratV a, ratV b] w (Ret w (limV 2)) := by
  have HC1 := Lib.hid (fun W => check07_any a.neg (bs a.n) (bs a.d) W)
  have HC2 := Lib.hid (fun W => check07_any b.neg (bs b.n) (bs b.d) W)
  rw [rchk_ok (RatS.of ha)] at HC1
  rw [rchk_ok (RatS.of hb)] at HC2
  have HM1 := Lib.hid (fun W => mul06_any (bs a.n) (bs b.n) W (short_of ha.1) (short_of hb.1))
  have HM2 := Lib.hid (fun W => mul06_any (bs a.d) (bs b.d) W (short_of ha.2.1) (short_of hb.2.1))
  simp only [bv_bs] at HM1 HM2
  have e1 : shortV (a.n * b.n) = .tuple #[.string (bs (a.n * b.n)), .int .i64 0] := if_pos h1
  have e2 : shortV (a.d * b.d) = .tuple #[.string ⟨#[]⟩, .int .i64 2] := if_neg h2
  rw [e1] at HM1
  rw [e2] at HM2
  clear e1 e2
  unfold ratV at *
  obtain ⟨an, x, y⟩ := a
  obtain ⟨bn, x', y'⟩ := b
  simp only at *
  clear ha hb h1 h2
  generalize bs (x * x') = sx at *
  generalize bs x = xn at *
  generalize bs y = xd at *
  generalize bs x' = yn at *
  generalize bs y' = yd at *
  go_enter Tryz.func23, Tryz.ntmps23
  have K : Hid (Blk (w.alloc (.cells #[.bool an, .string xn, .string xd] 25)) (w.heap.size) [.bool an, .string xn, .string xd] 25) := by
    have := Blk.new w [.bool an, .string xn, .string xd] 25
    exact this
  have M : Hid (Blk ((w.alloc (.cells #[.bool an, .string xn, .string xd] 25)).alloc (.cells #[.bool bn, .string yn, .string yd] 25)) (w.heap.size + 1) [.bool bn, .string yn, .string yd] 25) := by
    have := Blk.new (w.alloc (.cells #[.bool an, .string xn, .string xd] 25)) [.bool bn, .string yn, .string yd] 25
    rwa [World.size_alloc] at this
  have R : Hid (Blk (((w.alloc (.cells #[.bool an, .string xn, .string xd] 25)).alloc (.cells #[.bool bn, .string yn, .string yd] 25)).alloc (.cells #[.bool false, .string ⟨#[]⟩, .string ⟨#[]⟩] 25)) (w.heap.size + 1 + 1) [.bool false, .string ⟨#[]⟩, .string ⟨#[]⟩] 25) := by
    have := Blk.new ((w.alloc (.cells #[.bool an, .string xn, .string xd] 25)).alloc (.cells #[.bool bn, .string yn, .string yd] 25)) [.bool false, .string ⟨#[]⟩, .string ⟨#[]⟩] 25
    rwa [World.size_alloc, World.size_alloc] at this
  go_wp2_with fail
  refine (HC1.out _).mono ?_
  rintro e w1 ⟨rfl, hb⟩
  have HB_1 := Lib.hid (((((Below.refl w.heap.size w).alloc (Below.refl w.heap.size w).size (.cells #[.bool an, .string xn, .string xd] 25)).alloc ((Below.refl w.heap.size w).alloc (Below.refl w.heap.size w).size (.cells #[.bool an, .string xn, .string xd] 25)).size (.cells #[.bool bn, .string yn, .string yd] 25)).alloc (((Below.refl w.heap.size w).alloc (Below.refl w.heap.size w).size (.cells #[.bool an, .string xn, .string xd] 25)).alloc ((Below.refl w.heap.size w).alloc (Below.refl w.heap.size w).size (.cells #[.bool an, .string xn, .string xd] 25)).size (.cells #[.bool bn, .string yn, .string yd] 25)).size (.cells #[.bool false, .string ⟨#[]⟩, .string ⟨#[]⟩] 25)).trans (hb.mono ((((Below.refl w.heap.size w).alloc (Below.refl w.heap.size w).size (.cells #[.bool an, .string xn, .string xd] 25)).alloc ((Below.refl w.heap.size w).alloc (Below.refl w.heap.size w).size (.cells #[.bool an, .string xn, .string xd] 25)).size (.cells #[.bool bn, .string yn, .string yd] 25)).alloc (((Below.refl w.heap.size w).alloc (Below.refl w.heap.size w).size (.cells #[.bool an, .string xn, .string xd] 25)).alloc ((Below.refl w.heap.size w).alloc (Below.refl w.heap.size w).size (.cells #[.bool an, .string xn, .string xd] 25)).size (.cells #[.bool bn, .string yn, .string yd] 25)).size (.cells #[.bool false, .string ⟨#[]⟩, .string ⟨#[]⟩] 25)).size))
  have K_1 := Lib.hid (((K.out.alloc (.cells #[.bool bn, .string yn, .string yd] 25)).alloc (.cells #[.bool false, .string ⟨#[]⟩, .string ⟨#[]⟩] 25)).below hb ((K.out.alloc (.cells #[.bool bn, .string yn, .string yd] 25)).alloc (.cells #[.bool false, .string ⟨#[]⟩, .string ⟨#[]⟩] 25)).lt)
  have M_1 := Lib.hid ((M.out.alloc (.cells #[.bool false, .string ⟨#[]⟩, .string ⟨#[]⟩] 25)).below hb (M.out.alloc (.cells #[.bool false, .string ⟨#[]⟩, .string ⟨#[]⟩] 25)).lt)
  have R_1 := Lib.hid (R.out.below hb R.out.lt)
  clear hb
  obtain ⟨q0, qf0⟩ := K_1.out.at 0 _ rfl
  obtain ⟨q1, qf1⟩ := K_1.out.at 1 _ rfl
  obtain ⟨q2, qf2⟩ := K_1.out.at 2 _ rfl
  have hq := K_1.out.lt
  obtain ⟨p0, pf0⟩ := M_1.out.at 0 _ rfl
  obtain ⟨p1, pf1⟩ := M_1.out.at 1 _ rfl
  obtain ⟨p2, pf2⟩ := M_1.out.at 2 _ rfl
  have hp := M_1.out.lt
  obtain ⟨r0, rf0⟩ := R_1.out.at 0 _ rfl
  obtain ⟨r1, rf1⟩ := R_1.out.at 1 _ rfl
  obtain ⟨r2, rf2⟩ := R_1.out.at 2 _ rfl
  have hr := R_1.out.lt
  go_wp2_with fail
  refine (HC2.out _).mono ?_
  rintro e w2 ⟨rfl, hb⟩
  have HB_2 := Lib.hid (HB_1.out.trans (hb.mono HB_1.out.size))
  have K_2 := Lib.hid (K_1.out.below hb K_1.out.lt)
  have M_2 := Lib.hid (M_1.out.below hb M_1.out.lt)
  have R_2 := Lib.hid (R_1.out.below hb R_1.out.lt)
  clear hb
  clear q0 q1 q2 hq qf0 qf1 qf2
  clear p0 p1 p2 hp pf0 pf1 pf2
  clear r0 r1 r2 hr rf0 rf1 rf2
  obtain ⟨q0, qf0⟩ := K_2.out.at 0 _ rfl
  obtain ⟨q1, qf1⟩ := K_2.out.at 1 _ rfl
  obtain ⟨q2, qf2⟩ := K_2.out.at 2 _ rfl
  have hq := K_2.out.lt
  obtain ⟨p0, pf0⟩ := M_2.out.at 0 _ rfl
  obtain ⟨p1, pf1⟩ := M_2.out.at 1 _ rfl
  obtain ⟨p2, pf2⟩ := M_2.out.at 2 _ rfl
  have hp := M_2.out.lt
  obtain ⟨r0, rf0⟩ := R_2.out.at 0 _ rfl
  obtain ⟨r1, rf1⟩ := R_2.out.at 1 _ rfl
  obtain ⟨r2, rf2⟩ := R_2.out.at 2 _ rfl
  have hr := R_2.out.lt
  go_wp2_with fail
  refine (HM1.out _).mono ?_
  rintro e w3 ⟨rfl, hb⟩
  have HB_3 := Lib.hid (HB_2.out.trans (hb.mono HB_2.out.size))
  have K_3 := Lib.hid (K_2.out.below hb K_2.out.lt)
  have M_3 := Lib.hid (M_2.out.below hb M_2.out.lt)
  have R_3 := Lib.hid (R_2.out.below hb R_2.out.lt)
  clear hb
  clear q0 q1 q2 hq qf0 qf1 qf2
  clear p0 p1 p2 hp pf0 pf1 pf2
  clear r0 r1 r2 hr rf0 rf1 rf2
  obtain ⟨q0, qf0⟩ := K_3.out.at 0 _ rfl
  obtain ⟨q1, qf1⟩ := K_3.out.at 1 _ rfl
  obtain ⟨q2, qf2⟩ := K_3.out.at 2 _ rfl
  have hq := K_3.out.lt
  obtain ⟨p0, pf0⟩ := M_3.out.at 0 _ rfl
  obtain ⟨p1, pf1⟩ := M_3.out.at 1 _ rfl
  obtain ⟨p2, pf2⟩ := M_3.out.at 2 _ rfl
  have hp := M_3.out.lt
  obtain ⟨r0, rf0⟩ := R_3.out.at 0 _ rfl
  obtain ⟨r1, rf1⟩ := R_3.out.at 1 _ rfl
  obtain ⟨r2, rf2⟩ := R_3.out.at 2 _ rfl
  have hr := R_3.out.lt
  go_wp2_with fail
  refine (HM2.out _).mono ?_
  rintro e w4 ⟨rfl, hb⟩
  have HB_4 := Lib.hid (HB_3.out.trans (hb.mono HB_3.out.size))
  have K_4 := Lib.hid (K_3.out.below hb K_3.out.lt)
  have M_4 := Lib.hid (M_3.out.below hb M_3.out.lt)
  have R_4 := Lib.hid (R_3.out.below hb R_3.out.lt)
  clear hb
  clear q0 q1 q2 hq qf0 qf1 qf2
  clear p0 p1 p2 hp pf0 pf1 pf2
  clear r0 r1 r2 hr rf0 rf1 rf2
  obtain ⟨q0, qf0⟩ := K_4.out.at 0 _ rfl
  obtain ⟨q1, qf1⟩ := K_4.out.at 1 _ rfl
  obtain ⟨q2, qf2⟩ := K_4.out.at 2 _ rfl
  have hq := K_4.out.lt
  obtain ⟨p0, pf0⟩ := M_4.out.at 0 _ rfl
  obtain ⟨p1, pf1⟩ := M_4.out.at 1 _ rfl
  obtain ⟨p2, pf2⟩ := M_4.out.at 2 _ rfl
  have hp := M_4.out.lt
  obtain ⟨r0, rf0⟩ := R_4.out.at 0 _ rfl
  obtain ⟨r1, rf1⟩ := R_4.out.at 1 _ rfl
  obtain ⟨r2, rf2⟩ := R_4.out.at 2 _ rfl
  have hr := R_4.out.lt
  go_wp2
  refine bodyPost_ret (v := limV 2) (by simp [results, Tryz.results23, go_sem, r0, r1, r2, limV]) rfl ⟨rfl, ?_⟩
  exact ((HB_4.out.setCell (by simp; omega) _).setCell (by simp; omega) _).setCell (by simp; omega) _


theorem mul07_any (a b : Rt) (w : World) (ha : a.ok) (hb : b.ok) : Calls Tryz.prog 23 #[ratV a, ratV b] w (Ret w (calcV (mulR a b))) := by
  unfold mulR
  by_cases h1 : a.n * b.n < LIM
  · by_cases h2 : a.d * b.d < LIM
    · rw [if_pos ⟨h1, h2⟩]; exact mul07_ok a b w ha hb h1 h2
    · rw [if_neg (fun h => h2 h.2)]; exact mul07_no2 a b w ha hb h1 h2
  · rw [if_neg (fun h => h1 h.1)]; exact mul07_no1 a b w ha hb h1

set_option maxRecDepth 100000 in
set_option maxHeartbeats 4000000 in
theorem div07_ok (a b : Rt) (w : World) (ha : a.ok) (hb : b.ok) (h0 : b.n ≠ 0) (h1 : a.n * b.d < LIM) (h2 : a.d * b.n < LIM) :
    Calls Tryz.prog 22 #[ratV a, ratV b] w (Ret w (.tuple #[ratV (lowR (a.neg != b.neg) (a.n * b.d) (a.d * b.n)), .int .i64 0])) := by
  have HC1 := Lib.hid (fun W => check07_any a.neg (bs a.n) (bs a.d) W)
  have HC2 := Lib.hid (fun W => check07_any b.neg (bs b.n) (bs b.d) W)
  rw [rchk_ok (RatS.of ha)] at HC1
  rw [rchk_ok (RatS.of hb)] at HC2
  have HM1 := Lib.hid (fun W => mul06_any (bs a.n) (bs b.d) W (short_of ha.1) (short_of hb.2.1))
  have HM2 := Lib.hid (fun W => mul06_any (bs a.d) (bs b.n) W (short_of ha.2.1) (short_of hb.1))
  simp only [bv_bs] at HM1 HM2
  have te : (bs b.n).toList.isEmpty = false := by rw [bs_isEmpty]; simpa using h0
  have e1 : shortV (a.n * b.d) = .tuple #[.string (bs (a.n * b.d)), .int .i64 0] := if_pos h1
  have e2 : shortV (a.d * b.n) = .tuple #[.string (bs (a.d * b.n)), .int .i64 0] := if_pos h2
  rw [e1] at HM1
  rw [e2] at HM2
  have HL := Lib.hid (fun W => lowest07_any (a.neg != b.neg) (a.n * b.d) (a.d * b.n) W h1 h2 (Nat.mul_pos ha.2.2.1 (by omega)))
  clear e1 e2
  unfold ratV at *
  obtain ⟨an, x, y⟩ := a
  obtain ⟨bn, x', y'⟩ := b
  simp only at *
  generalize lowR (an != bn) (x * y') (y * x') = rr at *
  clear ha hb h1 h2 h0
  generalize bs (x * y') = sx at *
  generalize bs (y * x') = sy at *
  generalize bs x = xn at *
  generalize bs y = xd at *
  generalize bs x' = yn at *
  generalize bs y' = yd at *
  go_enter Tryz.func22, Tryz.ntmps22
  have K : Hid (Blk (w.alloc (.cells #[.bool an, .string xn, .string xd] 25)) (w.heap.size) [.bool an, .string xn, .string xd] 25) := by
    have := Blk.new w [.bool an, .string xn, .string xd] 25
    exact this
  have M : Hid (Blk ((w.alloc (.cells #[.bool an, .string xn, .string xd] 25)).alloc (.cells #[.bool bn, .string yn, .string yd] 25)) (w.heap.size + 1) [.bool bn, .string yn, .string yd] 25) := by
    have := Blk.new (w.alloc (.cells #[.bool an, .string xn, .string xd] 25)) [.bool bn, .string yn, .string yd] 25
    rwa [World.size_alloc] at this
  have R : Hid (Blk (((w.alloc (.cells #[.bool an, .string xn, .string xd] 25)).alloc (.cells #[.bool bn, .string yn, .string yd] 25)).alloc (.cells #[.bool false, .string ⟨#[]⟩, .string ⟨#[]⟩] 25)) (w.heap.size + 1 + 1) [.bool false, .string ⟨#[]⟩, .string ⟨#[]⟩] 25) := by
    have := Blk.new ((w.alloc (.cells #[.bool an, .string xn, .string xd] 25)).alloc (.cells #[.bool bn, .string yn, .string yd] 25)) [.bool false, .string ⟨#[]⟩, .string ⟨#[]⟩] 25
    rwa [World.size_alloc, World.size_alloc] at this
  go_wp2_with fail
  refine (HC1.out _).mono ?_
  rintro e w1 ⟨rfl, hb⟩
  have HB_1 := Lib.hid (((((Below.refl w.heap.size w).alloc (Below.refl w.heap.size w).size (.cells #[.bool an, .string xn, .string xd] 25)).alloc ((Below.refl w.heap.size w).alloc (Below.refl w.heap.size w).size (.cells #[.bool an, .string xn, .string xd] 25)).size (.cells #[.bool bn, .string yn, .string yd] 25)).alloc (((Below.refl w.heap.size w).alloc (Below.refl w.heap.size w).size (.cells #[.bool an, .string xn, .string xd] 25)).alloc ((Below.refl w.heap.size w).alloc (Below.refl w.heap.size w).size (.cells #[.bool an, .string xn, .string xd] 25)).size (.cells #[.bool bn, .string yn, .string yd] 25)).size (.cells #[.bool false, .string ⟨#[]⟩, .string ⟨#[]⟩] 25)).trans (hb.mono ((((Below.refl w.heap.size w).alloc (Below.refl w.heap.size w).size (.cells #[.bool an, .string xn, .string xd] 25)).alloc ((Below.refl w.heap.size w).alloc (Below.refl w.heap.size w).size (.cells #[.bool an, .string xn, .string xd] 25)).size (.cells #[.bool bn, .string yn, .string yd] 25)).alloc (((Below.refl w.heap.size w).alloc (Below.refl w.heap.size w).size (.cells #[.bool an, .string xn, .string xd] 25)).alloc ((Below.refl w.heap.size w).alloc (Below.refl w.heap.size w).size (.cells #[.bool an, .string xn, .string xd] 25)).size (.cells #[.bool bn, .string yn, .string yd] 25)).size (.cells #[.bool false, .string ⟨#[]⟩, .string ⟨#[]⟩] 25)).size))
  have K_1 := Lib.hid (((K.out.alloc (.cells #[.bool bn, .string yn, .string yd] 25)).alloc (.cells #[.bool false, .string ⟨#[]⟩, .string ⟨#[]⟩] 25)).below hb ((K.out.alloc (.cells #[.bool bn, .string yn, .string yd] 25)).alloc (.cells #[.bool false, .string ⟨#[]⟩, .string ⟨#[]⟩] 25)).lt)
  have M_1 := Lib.hid ((M.out.alloc (.cells #[.bool false, .string ⟨#[]⟩, .string ⟨#[]⟩] 25)).below hb (M.out.alloc (.cells #[.bool false, .string ⟨#[]⟩, .string ⟨#[]⟩] 25)).lt)
  have R_1 := Lib.hid (R.out.below hb R.out.lt)
  clear hb
  obtain ⟨q0, qf0⟩ := K_1.out.at 0 _ rfl
  obtain ⟨q1, qf1⟩ := K_1.out.at 1 _ rfl
  obtain ⟨q2, qf2⟩ := K_1.out.at 2 _ rfl
  have hq := K_1.out.lt
  obtain ⟨p0, pf0⟩ := M_1.out.at 0 _ rfl
  obtain ⟨p1, pf1⟩ := M_1.out.at 1 _ rfl
  obtain ⟨p2, pf2⟩ := M_1.out.at 2 _ rfl
  have hp := M_1.out.lt
  obtain ⟨r0, rf0⟩ := R_1.out.at 0 _ rfl
  obtain ⟨r1, rf1⟩ := R_1.out.at 1 _ rfl
  obtain ⟨r2, rf2⟩ := R_1.out.at 2 _ rfl
  have hr := R_1.out.lt
  go_wp2_with fail
  refine (HC2.out _).mono ?_
  rintro e w2 ⟨rfl, hb⟩
  have HB_2 := Lib.hid (HB_1.out.trans (hb.mono HB_1.out.size))
  have K_2 := Lib.hid (K_1.out.below hb K_1.out.lt)
  have M_2 := Lib.hid (M_1.out.below hb M_1.out.lt)
  have R_2 := Lib.hid (R_1.out.below hb R_1.out.lt)
  clear hb
  clear q0 q1 q2 hq qf0 qf1 qf2
  clear p0 p1 p2 hp pf0 pf1 pf2
  clear r0 r1 r2 hr rf0 rf1 rf2
  obtain ⟨p0, pf0⟩ := M_2.out.at 0 _ rfl
  obtain ⟨p1, pf1⟩ := M_2.out.at 1 _ rfl
  obtain ⟨p2, pf2⟩ := M_2.out.at 2 _ rfl
  have hp := M_2.out.lt
  obtain ⟨q0, qf0⟩ := K_2.out.at 0 _ rfl
  obtain ⟨q1, qf1⟩ := K_2.out.at 1 _ rfl
  obtain ⟨q2, qf2⟩ := K_2.out.at 2 _ rfl
  have hq := K_2.out.lt
  obtain ⟨p0, pf0⟩ := M_2.out.at 0 _ rfl
  obtain ⟨p1, pf1⟩ := M_2.out.at 1 _ rfl
  obtain ⟨p2, pf2⟩ := M_2.out.at 2 _ rfl
  have hp := M_2.out.lt
  obtain ⟨r0, rf0⟩ := R_2.out.at 0 _ rfl
  obtain ⟨r1, rf1⟩ := R_2.out.at 1 _ rfl
  obtain ⟨r2, rf2⟩ := R_2.out.at 2 _ rfl
  have hr := R_2.out.lt
  go_wp2_with fail
  refine (HM1.out _).mono ?_
  rintro e w3 ⟨rfl, hb⟩
  have HB_3 := Lib.hid (HB_2.out.trans (hb.mono HB_2.out.size))
  have K_3 := Lib.hid (K_2.out.below hb K_2.out.lt)
  have M_3 := Lib.hid (M_2.out.below hb M_2.out.lt)
  have R_3 := Lib.hid (R_2.out.below hb R_2.out.lt)
  clear hb
  clear q0 q1 q2 hq qf0 qf1 qf2
  clear p0 p1 p2 hp pf0 pf1 pf2
  clear r0 r1 r2 hr rf0 rf1 rf2
  obtain ⟨q0, qf0⟩ := K_3.out.at 0 _ rfl
  obtain ⟨q1, qf1⟩ := K_3.out.at 1 _ rfl
  obtain ⟨q2, qf2⟩ := K_3.out.at 2 _ rfl
  have hq := K_3.out.lt
  obtain ⟨p0, pf0⟩ := M_3.out.at 0 _ rfl
  obtain ⟨p1, pf1⟩ := M_3.out.at 1 _ rfl
  obtain ⟨p2, pf2⟩ := M_3.out.at 2 _ rfl
  have hp := M_3.out.lt
  obtain ⟨r0, rf0⟩ := R_3.out.at 0 _ rfl
  obtain ⟨r1, rf1⟩ := R_3.out.at 1 _ rfl
  obtain ⟨r2, rf2⟩ := R_3.out.at 2 _ rfl
  have hr := R_3.out.lt
  go_wp2_with fail
  refine (HM2.out _).mono ?_
  rintro e w4 ⟨rfl, hb⟩
  have HB_4 := Lib.hid (HB_3.out.trans (hb.mono HB_3.out.size))
  have K_4 := Lib.hid (K_3.out.below hb K_3.out.lt)
  have M_4 := Lib.hid (M_3.out.below hb M_3.out.lt)
  have R_4 := Lib.hid (R_3.out.below hb R_3.out.lt)
  clear hb
  clear q0 q1 q2 hq qf0 qf1 qf2
  clear p0 p1 p2 hp pf0 pf1 pf2
  clear r0 r1 r2 hr rf0 rf1 rf2
  obtain ⟨q0, qf0⟩ := K_4.out.at 0 _ rfl
  obtain ⟨q1, qf1⟩ := K_4.out.at 1 _ rfl
  obtain ⟨q2, qf2⟩ := K_4.out.at 2 _ rfl
  have hq := K_4.out.lt
  obtain ⟨p0, pf0⟩ := M_4.out.at 0 _ rfl
  obtain ⟨p1, pf1⟩ := M_4.out.at 1 _ rfl
  obtain ⟨p2, pf2⟩ := M_4.out.at 2 _ rfl
  have hp := M_4.out.lt
  obtain ⟨r0, rf0⟩ := R_4.out.at 0 _ rfl
  obtain ⟨r1, rf1⟩ := R_4.out.at 1 _ rfl
  obtain ⟨r2, rf2⟩ := R_4.out.at 2 _ rfl
  have hr := R_4.out.lt
  go_wp2_with fail
  refine (HL.out _).mono ?_
  rintro e w5 ⟨rfl, hb⟩
  have HB_5 := Lib.hid (HB_4.out.trans (hb.mono HB_4.out.size))
  have K_5 := Lib.hid (K_4.out.below hb K_4.out.lt)
  have M_5 := Lib.hid (M_4.out.below hb M_4.out.lt)
  have R_5 := Lib.hid (R_4.out.below hb R_4.out.lt)
  clear hb
  clear q0 q1 q2 hq qf0 qf1 qf2
  clear p0 p1 p2 hp pf0 pf1 pf2
  clear r0 r1 r2 hr rf0 rf1 rf2
  obtain ⟨q0, qf0⟩ := K_5.out.at 0 _ rfl
  obtain ⟨q1, qf1⟩ := K_5.out.at 1 _ rfl
  obtain ⟨q2, qf2⟩ := K_5.out.at 2 _ rfl
  have hq := K_5.out.lt
  obtain ⟨p0, pf0⟩ := M_5.out.at 0 _ rfl
  obtain ⟨p1, pf1⟩ := M_5.out.at 1 _ rfl
  obtain ⟨p2, pf2⟩ := M_5.out.at 2 _ rfl
  have hp := M_5.out.lt
  obtain ⟨r0, rf0⟩ := R_5.out.at 0 _ rfl
  obtain ⟨r1, rf1⟩ := R_5.out.at 1 _ rfl
  obtain ⟨r2, rf2⟩ := R_5.out.at 2 _ rfl
  have hr := R_5.out.lt
  go_wp2
  refine bodyPost_ret (v := .tuple #[.agg #[.bool rr.neg, .string (bs rr.n), .string (bs rr.d)], .int .i64 0]) (by simp [results, Tryz.results22, go_sem, r0, r1, r2]) rfl ⟨rfl, ?_⟩
  exact ((HB_5.out.setCell (by simp; omega) _).setCell (by simp; omega) _).setCell (by simp; omega) _


set_option maxRecDepth 100000 in
set_option maxHeartbeats 4000000 in
theorem div07_no1 (a b : Rt) (w : World) (ha : a.ok) (hb : b.ok) (h0 : b.n ≠ 0) (h1 : ¬ a.n * b.d < LIM) :
    Calls Tryz.prog 22 #[ratV a, ratV b] w (Ret w (limV 2)) := by
  have HC1 := Lib.hid (fun W => check07_any a.neg (bs a.n) (bs a.d) W)
  have HC2 := Lib.hid (fun W => check07_any b.neg (bs b.n) (bs b.d) W)
  rw [rchk_ok (RatS.of ha)] at HC1
  rw [rchk_ok (RatS.of hb)] at HC2
  have HM1 := Lib.hid (fun W => mul06_any (bs a.n) (bs b.d) W (short_of ha.1) (short_of hb.2.1))
  have HM2 := Lib.hid (fun W => mul06_any (bs a.d) (bs b.n) W (short_of ha.2.1) (short_of hb.1))
  simp only [bv_bs] at HM1 HM2
  have te : (bs b.n).toList.isEmpty = false := by rw [bs_isEmpty]; simpa using h0
  have e1 : shortV (a.n * b.d) = .tuple #[.string ⟨#[]⟩, .int .i64 2] := if_neg h1
  rw [e1] at HM1
  clear e1
  unfold ratV at *
  obtain ⟨an, x, y⟩ := a
  obtain ⟨bn, x', y'⟩ := b
  simp only at *
  obtain ⟨s2, k2, e2⟩ : ∃ s k, shortV (y * x') = .tuple #[.string s, .int .i64 k] := by unfold shortV; split; exact ⟨_, _, rfl⟩; exact ⟨_, _, rfl⟩
  rw [e2] at HM2
  clear e2
  clear ha hb h1 h0
  generalize bs x = xn at *
  generalize bs y = xd at *
  generalize bs x' = yn at *
  generalize bs y' = yd at *
  go_enter Tryz.func22, Tryz.ntmps22
  have K : Hid (Blk (w.alloc (.cells #[.bool an, .string xn, .string xd] 25)) (w.heap.size) [.bool an, .string xn, .string xd] 25) := by
    have := Blk.new w [.bool an, .string xn, .string xd] 25
    exact this
  have M : Hid (Blk ((w.alloc (.cells #[.bool an, .string xn, .string xd] 25)).alloc (.cells #[.bool bn, .string yn, .string yd] 25)) (w.heap.size + 1) [.bool bn, .string yn, .string yd] 25) := by
    have := Blk.new (w.alloc (.cells #[.bool an, .string xn, .string xd] 25)) [.bool bn, .string yn, .string yd] 25
    rwa [World.size_alloc] at this
  have R : Hid (Blk (((w.alloc (.cells #[.bool an, .string xn, .string xd] 25)).alloc (.cells #[.bool bn, .string yn, .string yd] 25)).alloc (.cells #[.bool false, .string ⟨#[]⟩, .string ⟨#[]⟩] 25)) (w.heap.size + 1 + 1) [.bool false, .string ⟨#[]⟩, .string ⟨#[]⟩] 25) := by
    have := Blk.new ((w.alloc (.cells #[.bool an, .string xn, .string xd] 25)).alloc (.cells #[.bool bn, .string yn, .string yd] 25)) [.bool false, .string ⟨#[]⟩, .string ⟨#[]⟩] 25
    rwa [World.size_alloc, World.size_alloc] at this
  go_wp2_with fail
  refine (HC1.out _).mono ?_
  rintro e w1 ⟨rfl, hb⟩
  have HB_1 := Lib.hid (((((Below.refl w.heap.size w).alloc (Below.refl w.heap.size w).size (.cells #[.bool an, .string xn, .string xd] 25)).alloc ((Below.refl w.heap.size w).alloc (Below.refl w.heap.size w).size (.cells #[.bool an, .string xn, .string xd] 25)).size (.cells #[.bool bn, .string yn, .string yd] 25)).alloc (((Below.refl w.heap.size w).alloc (Below.refl w.heap.size w).size (.cells #[.bool an, .string xn, .string xd] 25)).alloc ((Below.refl w.heap.size w).alloc (Below.refl w.heap.size w).size (.cells #[.bool an, .string xn, .string xd] 25)).size (.cells #[.bool bn, .string yn, .string yd] 25)).size (.cells #[.bool false, .string ⟨#[]⟩, .string ⟨#[]⟩] 25)).trans (hb.mono ((((Below.refl w.heap.size w).alloc (Below.refl w.heap.size w).size (.cells #[.bool an, .string xn, .string xd] 25)).alloc ((Below.refl w.heap.size w).alloc (Below.refl w.heap.size w).size (.cells #[.bool an, .string xn, .string xd] 25)).size (.cells #[.bool bn, .string yn, .string yd] 25)).alloc (((Below.refl w.heap.size w).alloc (Below.refl w.heap.size w).size (.cells #[.bool an, .string xn, .string xd] 25)).alloc ((Below.refl w.heap.size w).alloc (Below.refl w.heap.size w).size (.cells #[.bool an, .string xn, .string xd] 25)).size (.cells #[.bool bn, .string yn, .string yd] 25)).size (.cells #[.bool false, .string ⟨#[]⟩, .string ⟨#[]⟩] 25)).size))
  have K_1 := Lib.hid (((K.out.alloc (.cells #[.bool bn, .string yn, .string yd] 25)).alloc (.cells #[.bool false, .string ⟨#[]⟩, .string ⟨#[]⟩] 25)).below hb ((K.out.alloc (.cells #[.bool bn, .string yn, .string yd] 25)).alloc (.cells #[.bool false, .string ⟨#[]⟩, .string ⟨#[]⟩] 25)).lt)
  have M_1 := Lib.hid ((M.out.alloc (.cells #[.bool false, .string ⟨#[]⟩, .string ⟨#[]⟩] 25)).below hb (M.out.alloc (.cells #[.bool false, .string ⟨#[]⟩, .string ⟨#[]⟩] 25)).lt)
  have R_1 := Lib.hid (R.out.below hb R.out.lt)
  clear hb
  obtain ⟨q0, qf0⟩ := K_1.out.at 0 _ rfl
  obtain ⟨q1, qf1⟩ := K_1.out.at 1 _ rfl
  obtain ⟨q2, qf2⟩ := K_1.out.at 2 _ rfl
  have hq := K_1.out.lt
  obtain ⟨p0, pf0⟩ := M_1.out.at 0 _ rfl
  obtain ⟨p1, pf1⟩ := M_1.out.at 1 _ rfl
  obtain ⟨p2, pf2⟩ := M_1.out.at 2 _ rfl
  have hp := M_1.out.lt
  obtain ⟨r0, rf0⟩ := R_1.out.at 0 _ rfl
  obtain ⟨r1, rf1⟩ := R_1.out.at 1 _ rfl
  obtain ⟨r2, rf2⟩ := R_1.out.at 2 _ rfl
  have hr := R_1.out.lt
  go_wp2_with fail
  refine (HC2.out _).mono ?_
  rintro e w2 ⟨rfl, hb⟩
  have HB_2 := Lib.hid (HB_1.out.trans (hb.mono HB_1.out.size))
  have K_2 := Lib.hid (K_1.out.below hb K_1.out.lt)
  have M_2 := Lib.hid (M_1.out.below hb M_1.out.lt)
  have R_2 := Lib.hid (R_1.out.below hb R_1.out.lt)
  clear hb
  clear q0 q1 q2 hq qf0 qf1 qf2
  clear p0 p1 p2 hp pf0 pf1 pf2
  clear r0 r1 r2 hr rf0 rf1 rf2
  obtain ⟨q0, qf0⟩ := K_2.out.at 0 _ rfl
  obtain ⟨q1, qf1⟩ := K_2.out.at 1 _ rfl
  obtain ⟨q2, qf2⟩ := K_2.out.at 2 _ rfl
  have hq := K_2.out.lt
  obtain ⟨p0, pf0⟩ := M_2.out.at 0 _ rfl
  obtain ⟨p1, pf1⟩ := M_2.out.at 1 _ rfl
  obtain ⟨p2, pf2⟩ := M_2.out.at 2 _ rfl
  have hp := M_2.out.lt
  obtain ⟨r0, rf0⟩ := R_2.out.at 0 _ rfl
  obtain ⟨r1, rf1⟩ := R_2.out.at 1 _ rfl
  obtain ⟨r2, rf2⟩ := R_2.out.at 2 _ rfl
  have hr := R_2.out.lt
  go_wp2_with fail
  refine (HM1.out _).mono ?_
  rintro e w3 ⟨rfl, hb⟩
  have HB_3 := Lib.hid (HB_2.out.trans (hb.mono HB_2.out.size))
  have K_3 := Lib.hid (K_2.out.below hb K_2.out.lt)
  have M_3 := Lib.hid (M_2.out.below hb M_2.out.lt)
  have R_3 := Lib.hid (R_2.out.below hb R_2.out.lt)
  clear hb
  clear q0 q1 q2 hq qf0 qf1 qf2
  clear p0 p1 p2 hp pf0 pf1 pf2
  clear r0 r1 r2 hr rf0 rf1 rf2
  obtain ⟨q0, qf0⟩ := K_3.out.at 0 _ rfl
  obtain ⟨q1, qf1⟩ := K_3.out.at 1 _ rfl
  obtain ⟨q2, qf2⟩ := K_3.out.at 2 _ rfl
  have hq := K_3.out.lt
  obtain ⟨p0, pf0⟩ := M_3.out.at 0 _ rfl
  obtain ⟨p1, pf1⟩ := M_3.out.at 1 _ rfl
  obtain ⟨p2, pf2⟩ := M_3.out.at 2 _ rfl
  have hp := M_3.out.lt
  obtain ⟨r0, rf0⟩ := R_3.out.at 0 _ rfl
  obtain ⟨r1, rf1⟩ := R_3.out.at 1 _ rfl
  obtain ⟨r2, rf2⟩ := R_3.out.at 2 _ rfl
  have hr := R_3.out.lt
  go_wp2_with fail
  refine (HM2.out _).mono ?_
  rintro e w4 ⟨rfl, hb⟩
  have HB_4 := Lib.hid (HB_3.out.trans (hb.mono HB_3.out.size))
  have K_4 := Lib.hid (K_3.out.below hb K_3.out.lt)
  have M_4 := Lib.hid (M_3.out.below hb M_3.out.lt)
  have R_4 := Lib.hid (R_3.out.below hb R_3.out.lt)
  clear hb
  clear q0 q1 q2 hq qf0 qf1 qf2
  clear p0 p1 p2 hp pf0 pf1 pf2
  clear r0 r1 r2 hr rf0 rf1 rf2
  obtain ⟨q0, qf0⟩ := K_4.out.at 0 _ rfl
  obtain ⟨q1, qf1⟩ := K_4.out.at 1 _ rfl
  obtain ⟨q2, qf2⟩ := K_4.out.at 2 _ rfl
  have hq := K_4.out.lt
  obtain ⟨p0, pf0⟩ := M_4.out.at 0 _ rfl
  obtain ⟨p1, pf1⟩ := M_4.out.at 1 _ rfl
  obtain ⟨p2, pf2⟩ := M_4.out.at 2 _ rfl
  have hp := M_4.out.lt
  obtain ⟨r0, rf0⟩ := R_4.out.at 0 _ rfl
  obtain ⟨r1, rf1⟩ := R_4.out.at 1 _ rfl
  obtain ⟨r2, rf2⟩ := R_4.out.at 2 _ rfl
  have hr := R_4.out.lt
  go_wp2
  refine bodyPost_ret (v := limV 2) (by simp [results, Tryz.results22, go_sem, r0, r1, r2, limV]) rfl ⟨rfl, ?_⟩
  exact ((HB_4.out.setCell (by simp; omega) _).setCell (by simp; omega) _).setCell (by simp; omega) _


set_option maxRecDepth 100000 in
set_option maxHeartbeats 4000000 in
theorem div07_no2 (a b : Rt) (w : World) (ha : a.ok) (hb : b.ok) (h0 : b.n ≠ 0) (h1 : a.n * b.d < LIM) (h2 : ¬ a.d * b.n < LIM) :
    Calls Tryz.prog 22 #[ratV a, ratV b] w (Ret w (limV 2)) := by
  have HC1 := Lib.hid (fun W => check07_any a.neg (bs a.n) (bs a.d) W)
  have HC2 := Lib.hid (fun W => check07_any b.neg (bs b.n) (bs b.d) W)
  rw [rchk_ok (RatS.of ha)] at HC1
  rw [rchk_ok (RatS.of hb)] at HC2
  have HM1 := Lib.hid (fun W => mul06_any (bs a.n) (bs b.d) W (short_of ha.1) (short_of hb.2.1))
  have HM2 := Lib.hid (fun W => mul06_any (bs a.d) (bs b.n) W (short_of ha.2.1) (short_of hb.1))
  simp only [bv_bs] at HM1 HM2
  have te : (bs b.n).toList.isEmpty = false := by rw [bs_isEmpty]; simpa using h0
  have e1 : shortV (a.n * b.d) = .tuple #[.string (bs (a.n * b.d)), .int .i64 0] := if_pos h1
  have e2 : shortV (a.d * b.n) = .tuple #[.string ⟨#[]⟩, .int .i64 2] := if_neg h2
  rw [e1] at HM1
  rw [e2] at HM2
  clear e1 e2
  unfold ratV at *
  obtain ⟨an, x, y⟩ := a
  obtain ⟨bn, x', y'⟩ := b
  simp only at *
  clear ha hb h1 h2 h0
  generalize bs (x * y') = sx at *
  generalize bs x = xn at *
  generalize bs y = xd at *
  generalize bs x' = yn at *
  generalize bs y' = yd at *
  go_enter Tryz.func22, Tryz.ntmps22
  have K : Hid (Blk (w.alloc (.cells #[.bool an, .string xn, .string xd] 25)) (w.heap.size) [.bool an, .string xn, .string xd] 25) := by
    have := Blk.new w [.bool an, .string xn, .string xd] 25
    exact this
  have M : Hid (Blk ((w.alloc (.cells #[.bool an, .string xn, .string xd] 25)).alloc (.cells #[.bool bn, .string yn, .string yd] 25)) (w.heap.size + 1) [.bool bn, .string yn, .string yd] 25) := by
    have := Blk.new (w.alloc (.cells #[.bool an, .string xn, .string xd] 25)) [.bool bn, .string yn, .string yd] 25
    rwa [World.size_alloc] at this
  have R : Hid (Blk (((w.alloc (.cells #[.bool an, .string xn, .string xd] 25)).alloc (.cells #[.bool bn, .string yn, .string yd] 25)).alloc (.cells #[.bool false, .string ⟨#[]⟩, .string ⟨#[]⟩] 25)) (w.heap.size + 1 + 1) [.bool false, .string ⟨#[]⟩, .string ⟨#[]⟩] 25) := by
    have := Blk.new ((w.alloc (.cells #[.bool an, .string xn, .string xd] 25)).alloc (.cells #[.bool bn, .string yn, .string yd] 25)) [.bool false, .string ⟨#[]⟩, .string ⟨#[]⟩] 25
    rwa [World.size_alloc, World.size_alloc] at this
  go_wp2_with fail
  refine (HC1.out _).mono ?_
  rintro e w1 ⟨rfl, hb⟩
  have HB_1 := Lib.hid (((((Below.refl w.heap.size w).alloc (Below.refl w.heap.size w).size (.cells #[.bool an, .string xn, .string xd] 25)).alloc ((Below.refl w.heap.size w).alloc (Below.refl w.heap.size w).size (.cells #[.bool an, .string xn, .string xd] 25)).size (.cells #[.bool bn, .string yn, .string yd] 25)).alloc (((Below.refl w.heap.size w).alloc (Below.refl w.heap.size w).size (.cells #[.bool an, .string xn, .string xd] 25)).alloc ((Below.refl w.heap.size w).alloc (Below.refl w.heap.size w).size (.cells #[.bool an, .string xn, .string xd] 25)).size (.cells #[.bool bn, .string yn, .string yd] 25)).size (.cells #[.bool false, .string ⟨#[]⟩, .string ⟨#[]⟩] 25)).trans (hb.mono ((((Below.refl w.heap.size w).alloc (Below.refl w.heap.size w).size (.cells #[.bool an, .string xn, .string xd] 25)).alloc ((Below.refl w.heap.size w).alloc (Below.refl w.heap.size w).size (.cells #[.bool an, .string xn, .string xd] 25)).size (.cells #[.bool bn, .string yn, .string yd] 25)).alloc (((Below.refl w.heap.size w).alloc (Below.refl w.heap.size w).size (.cells #[.bool an, .string xn, .string xd] 25)).alloc ((Below.refl w.heap.size w).alloc (Below.refl w.heap.size w).size (.cells #[.bool an, .string xn, .string xd] 25)).size (.cells #[.bool bn, .string yn, .string yd] 25)).size (.cells #[.bool false, .string ⟨#[]⟩, .string ⟨#[]⟩] 25)).size))
  have K_1 := Lib.hid (((K.out.alloc (.cells #[.bool bn, .string yn, .string yd] 25)).alloc (.cells #[.bool false, .string ⟨#[]⟩, .string ⟨#[]⟩] 25)).below hb ((K.out.alloc (.cells #[.bool bn, .string yn, .string yd] 25)).alloc (.cells #[.bool false, .string ⟨#[]⟩, .string ⟨#[]⟩] 25)).lt)
  have M_1 := Lib.hid ((M.out.alloc (.cells #[.bool false, .string ⟨#[]⟩, .string ⟨#[]⟩] 25)).below hb (M.out.alloc (.cells #[.bool false, .string ⟨#[]⟩, .string ⟨#[]⟩] 25)).lt)
  have R_1 := Lib.hid (R.out.below hb R.out.lt)
  clear hb
  obtain ⟨q0, qf0⟩ := K_1.out.at 0 _ rfl
  obtain ⟨q1, qf1⟩ := K_1.out.at 1 _ rfl
  obtain ⟨q2, qf2⟩ := K_1.out.at 2 _ rfl
  have hq := K_1.out.lt
  obtain ⟨p0, pf0⟩ := M_1.out.at 0 _ rfl
  obtain ⟨p1, pf1⟩ := M_1.out.at 1 _ rfl
  obtain ⟨p2, pf2⟩ := M_1.out.at 2 _ rfl
  have hp := M_1.out.lt
  obtain ⟨r0, rf0⟩ := R_1.out.at 0 _ rfl
  obtain ⟨r1, rf1⟩ := R_1.out.at 1 _ rfl
  obtain ⟨r2, rf2⟩ := R_1.out.at 2 _ rfl
  have hr := R_1.out.lt
  go_wp2_with fail
  refine (HC2.out _).mono ?_
  rintro e w2 ⟨rfl, hb⟩
  have HB_2 := Lib.hid (HB_1.out.trans (hb.mono HB_1.out.size))
  have K_2 := Lib.hid (K_1.out.below hb K_1.out.lt)
  have M_2 := Lib.hid (M_1.out.below hb M_1.out.lt)
  have R_2 := Lib.hid (R_1.out.below hb R_1.out.lt)
  clear hb
  clear q0 q1 q2 hq qf0 qf1 qf2
  clear p0 p1 p2 hp pf0 pf1 pf2
  clear r0 r1 r2 hr rf0 rf1 rf2
  obtain ⟨q0, qf0⟩ := K_2.out.at 0 _ rfl
  obtain ⟨q1, qf1⟩ := K_2.out.at 1 _ rfl
  obtain ⟨q2, qf2⟩ := K_2.out.at 2 _ rfl
  have hq := K_2.out.lt
  obtain ⟨p0, pf0⟩ := M_2.out.at 0 _ rfl
  obtain ⟨p1, pf1⟩ := M_2.out.at 1 _ rfl
  obtain ⟨p2, pf2⟩ := M_2.out.at 2 _ rfl
  have hp := M_2.out.lt
  obtain ⟨r0, rf0⟩ := R_2.out.at 0 _ rfl
  obtain ⟨r1, rf1⟩ := R_2.out.at 1 _ rfl
  obtain ⟨r2, rf2⟩ := R_2.out.at 2 _ rfl
  have hr := R_2.out.lt
  go_wp2_with fail
  refine (HM1.out _).mono ?_
  rintro e w3 ⟨rfl, hb⟩
  have HB_3 := Lib.hid (HB_2.out.trans (hb.mono HB_2.out.size))
  have K_3 := Lib.hid (K_2.out.below hb K_2.out.lt)
  have M_3 := Lib.hid (M_2.out.below hb M_2.out.lt)
  have R_3 := Lib.hid (R_2.out.below hb R_2.out.lt)
  clear hb
  clear q0 q1 q2 hq qf0 qf1 qf2
  clear p0 p1 p2 hp pf0 pf1 pf2
  clear r0 r1 r2 hr rf0 rf1 rf2
  obtain ⟨q0, qf0⟩ := K_3.out.at 0 _ rfl
  obtain ⟨q1, qf1⟩ := K_3.out.at 1 _ rfl
  obtain ⟨q2, qf2⟩ := K_3.out.at 2 _ rfl
  have hq := K_3.out.lt
  obtain ⟨p0, pf0⟩ := M_3.out.at 0 _ rfl
  obtain ⟨p1, pf1⟩ := M_3.out.at 1 _ rfl
  obtain ⟨p2, pf2⟩ := M_3.out.at 2 _ rfl
  have hp := M_3.out.lt
  obtain ⟨r0, rf0⟩ := R_3.out.at 0 _ rfl
  obtain ⟨r1, rf1⟩ := R_3.out.at 1 _ rfl
  obtain ⟨r2, rf2⟩ := R_3.out.at 2 _ rfl
  have hr := R_3.out.lt
  go_wp2_with fail
  refine (HM2.out _).mono ?_
  rintro e w4 ⟨rfl, hb⟩
  have HB_4 := Lib.hid (HB_3.out.trans (hb.mono HB_3.out.size))
  have K_4 := Lib.hid (K_3.out.below hb K_3.out.lt)
  have M_4 := Lib.hid (M_3.out.below hb M_3.out.lt)
  have R_4 := Lib.hid (R_3.out.below hb R_3.out.lt)
  clear hb
  clear q0 q1 q2 hq qf0 qf1 qf2
  clear p0 p1 p2 hp pf0 pf1 pf2
  clear r0 r1 r2 hr rf0 rf1 rf2
  obtain ⟨q0, qf0⟩ := K_4.out.at 0 _ rfl
  obtain ⟨q1, qf1⟩ := K_4.out.at 1 _ rfl
  obtain ⟨q2, qf2⟩ := K_4.out.at 2 _ rfl
  have hq := K_4.out.lt
  obtain ⟨p0, pf0⟩ := M_4.out.at 0 _ rfl
  obtain ⟨p1, pf1⟩ := M_4.out.at 1 _ rfl
  obtain ⟨p2, pf2⟩ := M_4.out.at 2 _ rfl
  have hp := M_4.out.lt
  obtain ⟨r0, rf0⟩ := R_4.out.at 0 _ rfl
  obtain ⟨r1, rf1⟩ := R_4.out.at 1 _ rfl
  obtain ⟨r2, rf2⟩ := R_4.out.at 2 _ rfl
  have hr := R_4.out.lt
  go_wp2
  refine bodyPost_ret (v := limV 2) (by simp [results, Tryz.results22, go_sem, r0, r1, r2, limV]) rfl ⟨rfl, ?_⟩
  exact ((HB_4.out.setCell (by simp; omega) _).setCell (by simp; omega) _).setCell (by simp; omega) _


theorem div07_any (a b : Rt) (w : World) (ha : a.ok) (hb : b.ok) (h0 : b.n ≠ 0) : Calls Tryz.prog 22 #[ratV a, ratV b] w (Ret w (calcV (divR a b))) := by
  unfold divR mulR invR
  by_cases h1 : a.n * b.d < LIM
  · by_cases h2 : a.d * b.n < LIM
    · rw [if_pos ⟨h1, h2⟩]; exact div07_ok a b w ha hb h0 h1 h2
    · rw [if_neg (fun h => h2 h.2)]; exact div07_no2 a b w ha hb h0 h1 h2
  · rw [if_neg (fun h => h1 h.1)]; exact div07_no1 a b w ha hb h0 h1

end Go.Proofs.YtoolanjbmbcaiaaGreatDoor
namespace Go.Proofs.YtoolanjbmbcaiaaGreatDoor
open Go.RowKit Bf

set_option maxRecDepth 100000 in
set_option maxHeartbeats 2000000 in
theorem opposite_any (n d : ByteArray) (w : World) :
    Calls Tryz.prog 51 #[.agg #[.bool false, .string n, .string d]] w (Ret w (.agg #[.bool (!n.toList.isEmpty), .string n, .string d])) := by
  have hnot : ∀ (x : Bool) (w : World), (Op.unary .not (.bool x)).run Tryz.prog w = .ok (.bool (!x)) w := fun _ _ => rfl
  cases te : n.toList.isEmpty
  all_goals
    go_enter Tryz.func51, Tryz.ntmps51
    go_wp2
    refine bodyPost_ret (v := .agg #[.bool _, .string n, .string d]) (by simp [results, Tryz.results51, go_sem]) rfl ⟨rfl, ?_⟩
    exact ((Below.refl w.heap.size w).alloc (Nat.le_refl _) _).alloc (by simp) _

def wholeV (neg : Bool) (q : Nat) : Value := if q ≤ 4611686018427387904 then .tuple #[.int .i64 (if neg then -(q : Int) else (q : Int)), .int .i64 0] else .tuple #[.int .i64 0, .int .i64 2]

set_option maxRecDepth 100000 in
set_option maxHeartbeats 2000000 in
theorem whole07_any (neg : Bool) (q : Nat) (w : World) (hq : q < 256 ^ 16) :
    Calls Tryz.prog 82 #[.bool neg, .string (bs q)] w (Ret w (wholeV neg q)) := by
  have hnot : ∀ (x : Bool) (w : World), (Op.unary .not (.bool x)).run Tryz.prog w = .ok (.bool (!x)) w := fun _ _ => rfl
  have HI := Lib.hid (fun W => int06_any (bs q) W (bs_nat q) (by rw [bs_size]; have := benc_length_le.2 hq; omega))
  rw [bv_bs] at HI
  unfold wholeV
  by_cases h1 : q ≤ 4611686018427387904
  · rw [if_pos h1]
    have e1 : intV q = .tuple #[.int .i64 (q : Int), .bool true] := if_pos (by omega)
    rw [e1] at HI
    have t1 : decide ((4611686018427387904 : Int) < (q : Int)) = false := by simp; omega
    have y1 : IntKind.i64.wrap (-(q : Int)) = -(q : Int) := by rw [IntKind.wrap_i64]; omega
    clear e1 hq
    generalize bs q = sq at *
    cases neg
    all_goals
      simp only [if_true, if_false, Bool.false_eq_true]
      go_enter Tryz.func82, Tryz.ntmps82
      go_wp2_with fail
      refine (HI.out _).mono ?_
      rintro e w1 ⟨rfl, hb1⟩
      have HB1 := Lib.hid hb1
      clear hb1
      go_wp2
      go_ret2
      exact ⟨rfl, HB1.out⟩
  · rw [if_neg h1]
    obtain ⟨k, ok, e1, hk⟩ : ∃ (k : Int) (ok : Bool), intV q = .tuple #[.int .i64 k, .bool ok] ∧ (ok = false ∨ (ok = true ∧ (4611686018427387904 : Int) < k)) := by
      unfold intV
      by_cases h2 : q < 9223372036854775808
      · rw [if_pos h2]; exact ⟨_, _, rfl, .inr ⟨rfl, by omega⟩⟩
      · rw [if_neg h2]; exact ⟨_, _, rfl, .inl rfl⟩
    rw [e1] at HI
    clear e1 hq h1
    generalize bs q = sq at *
    rcases hk with rfl | ⟨rfl, hk⟩
    · skip
      go_enter Tryz.func82, Tryz.ntmps82
      go_wp2_with fail
      refine (HI.out _).mono ?_
      rintro e w1 ⟨rfl, hb1⟩
      have HB1 := Lib.hid hb1
      clear hb1
      go_wp2
      go_ret2
      exact ⟨rfl, HB1.out⟩
    · have t1 : decide ((4611686018427387904 : Int) < k) = true := by simpa using hk
      go_enter Tryz.func82, Tryz.ntmps82
      go_wp2_with fail
      refine (HI.out _).mono ?_
      rintro e w1 ⟨rfl, hb1⟩
      have HB1 := Lib.hid hb1
      clear hb1
      go_wp2
      go_ret2
      exact ⟨rfl, HB1.out⟩

theorem wholeV_two (neg : Bool) (q : Nat) : (∃ k : Int, wholeV neg q = .tuple #[.int .i64 k, .int .i64 0]) ∨ wholeV neg q = .tuple #[.int .i64 0, .int .i64 2] := by
  unfold wholeV
  split
  · exact .inl ⟨_, rfl⟩
  · exact .inr rfl
/-- What Floor returns for the negative of a number. -/
def floorV (a : Rt) : Value := match ceilR a with | some k => .tuple #[.int .i64 (-(k : Int)), .int .i64 0] | none => .tuple #[.int .i64 0, .int .i64 2]

set_option maxRecDepth 100000 in
set_option maxHeartbeats 2000000 in
theorem floor07_neg (a : Rt) (w : World) (ha : a.ok) (hn : a.n ≠ 0) :
    Calls Tryz.prog 50 #[.agg #[.bool true, .string (bs a.n), .string (bs a.d)]] w (Ret w (floorV a)) := by
  have hr : RatS true (bs a.n) (bs a.d) := ⟨short_of ha.1, short_of ha.2.1, by rw [bv_bs]; have := ha.2.2.1; omega, by rw [bv_bs, bv_bs]; exact ha.2.2.2.1, fun _ => by rw [bv_bs]; exact hn⟩
  have HC := Lib.hid (fun W => check07_any true (bs a.n) (bs a.d) W)
  rw [rchk_ok hr] at HC
  have HD := Lib.hid (fun W => div06_any (bs a.n) (bs a.d) W (short_of ha.1) (short_of ha.2.1) (by rw [bv_bs]; have := ha.2.2.1; omega))
  simp only [bv_bs] at HD
  have hqL : a.n / a.d < LIM := Nat.lt_of_le_of_lt (Nat.div_le_self _ _) ha.1
  have tr := bs_isEmpty (a.n % a.d)
  have hsz : (bs (a.n / a.d)).size ≤ 8 ↔ a.n / a.d < 18446744073709551616 := by rw [bs_size]; exact benc_length_le
  have HW := Lib.hid (fun k W (hk : k < 256 ^ 16) => whole07_any true k W hk)
  have HA := Lib.hid (fun W => add06_any (bs (a.n / a.d)) (bs 1) W (short_of hqL) (short_of (Nat.lt_of_lt_of_le (by decide : 1 < 256 ^ 1) (Nat.pow_le_pow_right (by omega) (by omega)))))
  simp only [bv_bs] at HA
  rw [bs_one] at HA
  obtain ⟨V, hV⟩ : ∃ V, floorV a = V := ⟨_, rfl⟩
  rw [hV]
  unfold floorV ceilR at hV
  generalize a.n / a.d = q at *
  generalize a.n % a.d = r at *
  clear ha hn hr
  generalize bs a.n = xn at *
  generalize bs a.d = xd at *
  by_cases hbig : q < 18446744073709551616
  rotate_left
  · have HV : Hid (V = .tuple #[.int .i64 0, .int .i64 2]) := by
      show V = _
      rw [← hV, if_neg (by omega)]
    have t1 : (8 : Int) < ((bs q).size : Int) := by
      have : ¬ (bs q).size ≤ 8 := fun h => hbig (hsz.1 h)
      omega
    clear hV hsz tr hqL HW HA
    generalize bs q = sq at *
    generalize bs r = sr at *
    go_enter Tryz.func50, Tryz.ntmps50
    go_wp2_with fail
    refine (HC.out _).mono ?_
    rintro e w1 ⟨rfl, hb1⟩
    have K1 := Lib.hid ((Blk.new w [.bool true, .string xn, .string xd] 25).below hb1 (by simp))
    have HB1 := Lib.hid (((Below.refl w.heap.size w).alloc (Nat.le_refl _) _).trans (hb1.mono (by simp)))
    clear hb1
    obtain ⟨q0, _⟩ := K1.out.at 0 _ rfl
    obtain ⟨q1, _⟩ := K1.out.at 1 _ rfl
    obtain ⟨q2, _⟩ := K1.out.at 2 _ rfl
    go_wp2_with fail
    refine (HD.out _).mono ?_
    rintro e w2 ⟨rfl, hb2⟩
    have K2 := Lib.hid (K1.out.below hb2 K1.out.lt)
    have HB2 := Lib.hid (HB1.out.trans (hb2.mono HB1.out.size))
    clear hb2 HB1 K1 q0 q1 q2
    obtain ⟨q0, _⟩ := K2.out.at 0 _ rfl
    obtain ⟨q1, _⟩ := K2.out.at 1 _ rfl
    obtain ⟨q2, _⟩ := K2.out.at 2 _ rfl
    go_wp2
    go_ret2
    exact ⟨by rw [HV.out]; rfl, HB2.out⟩
  have t1 : ¬ (8 : Int) < ((bs q).size : Int) := by
    have := hsz.2 hbig
    omega
  by_cases hr0 : r = 0
  · have HV : Hid (V = wholeV true q) := by
      show V = _
      rw [← hV]
      unfold wholeV
      by_cases h : q ≤ 4611686018427387904
      · rw [if_pos h, if_pos h, if_pos hr0]; rfl
      · rw [if_neg h, if_neg h]
    have tr' : (bs r).toList.isEmpty = true := by rw [tr]; simp [hr0]
    have HQ : Hid (q < 256 ^ 16) := Nat.lt_of_lt_of_le hbig (by decide)
    clear hV hsz tr hqL HA hr0 hbig
    generalize bs r = sr at *
    go_enter Tryz.func50, Tryz.ntmps50
    go_wp2_with fail
    refine (HC.out _).mono ?_
    rintro e w1 ⟨rfl, hb1⟩
    have K1 := Lib.hid ((Blk.new w [.bool true, .string xn, .string xd] 25).below hb1 (by simp))
    have HB1 := Lib.hid (((Below.refl w.heap.size w).alloc (Nat.le_refl _) _).trans (hb1.mono (by simp)))
    clear hb1
    obtain ⟨q0, _⟩ := K1.out.at 0 _ rfl
    obtain ⟨q1, _⟩ := K1.out.at 1 _ rfl
    obtain ⟨q2, _⟩ := K1.out.at 2 _ rfl
    go_wp2_with fail
    refine (HD.out _).mono ?_
    rintro e w2 ⟨rfl, hb2⟩
    have K2 := Lib.hid (K1.out.below hb2 K1.out.lt)
    have HB2 := Lib.hid (HB1.out.trans (hb2.mono HB1.out.size))
    clear hb2 HB1 K1 q0 q1 q2
    obtain ⟨q0, _⟩ := K2.out.at 0 _ rfl
    obtain ⟨q1, _⟩ := K2.out.at 1 _ rfl
    obtain ⟨q2, _⟩ := K2.out.at 2 _ rfl
    go_wp2_with fail
    refine (HW.out _ _ HQ.out).mono ?_
    rintro e w5 ⟨rfl, hb5⟩
    have HB5 := Lib.hid (HB2.out.trans (hb5.mono HB2.out.size))
    clear hb5
    rcases wholeV_two true q with ⟨k5, h⟩ | h
    all_goals
      rw [h]
      have HH := Lib.hid h
      clear h
      go_wp2
      go_ret2
      exact ⟨by rw [HV.out, HH.out]; rfl, HB5.out⟩

  · have HV : Hid (V = wholeV true (q + 1)) := by
      show V = _
      rw [← hV]
      unfold wholeV
      by_cases h : q ≤ 4611686018427387904
      · rw [if_pos h, if_neg hr0]
        by_cases h2 : q + 1 ≤ 4611686018427387904
        · rw [if_pos h2, if_pos h2]; rfl
        · rw [if_neg h2, if_neg h2]
      · rw [if_neg h, if_neg (by omega)]
    have tr' : (bs r).toList.isEmpty = false := by rw [tr]; simpa using hr0
    have HQ : Hid (q + 1 < 256 ^ 16) := Nat.lt_of_le_of_lt hbig (by decide)
    have e1 : shortV (q + 1) = .tuple #[.string (bs (q + 1)), .int .i64 0] := if_pos (Nat.lt_of_lt_of_le HQ.out (Nat.pow_le_pow_right (by omega) (by omega)))
    rw [e1] at HA
    clear hV hsz tr hqL hr0 hbig e1
    generalize bs r = sr at *
    go_enter Tryz.func50, Tryz.ntmps50
    go_wp2_with fail
    refine (HC.out _).mono ?_
    rintro e w1 ⟨rfl, hb1⟩
    have K1 := Lib.hid ((Blk.new w [.bool true, .string xn, .string xd] 25).below hb1 (by simp))
    have HB1 := Lib.hid (((Below.refl w.heap.size w).alloc (Nat.le_refl _) _).trans (hb1.mono (by simp)))
    clear hb1
    obtain ⟨q0, _⟩ := K1.out.at 0 _ rfl
    obtain ⟨q1, _⟩ := K1.out.at 1 _ rfl
    obtain ⟨q2, _⟩ := K1.out.at 2 _ rfl
    go_wp2_with fail
    refine (HD.out _).mono ?_
    rintro e w2 ⟨rfl, hb2⟩
    have K2 := Lib.hid (K1.out.below hb2 K1.out.lt)
    have HB2 := Lib.hid (HB1.out.trans (hb2.mono HB1.out.size))
    clear hb2 HB1 K1 q0 q1 q2
    obtain ⟨q0, _⟩ := K2.out.at 0 _ rfl
    obtain ⟨q1, _⟩ := K2.out.at 1 _ rfl
    obtain ⟨q2, _⟩ := K2.out.at 2 _ rfl
    go_wp2_with fail
    refine (HA.out _).mono ?_
    rintro e w3 ⟨rfl, hb3⟩
    have K3 := Lib.hid (K2.out.below hb3 K2.out.lt)
    have HB3 := Lib.hid (HB2.out.trans (hb3.mono HB2.out.size))
    clear hb3 HB2 K2 q0 q1 q2
    obtain ⟨q0, _⟩ := K3.out.at 0 _ rfl
    obtain ⟨q1, _⟩ := K3.out.at 1 _ rfl
    obtain ⟨q2, _⟩ := K3.out.at 2 _ rfl
    go_wp2_with fail
    refine (HW.out _ _ HQ.out).mono ?_
    rintro e w5 ⟨rfl, hb5⟩
    have HB5 := Lib.hid (HB3.out.trans (hb5.mono HB3.out.size))
    clear hb5
    rcases wholeV_two true (q + 1) with ⟨k5, h⟩ | h
    all_goals
      rw [h]
      have HH := Lib.hid h
      clear h
      go_wp2
      go_ret2
      exact ⟨by rw [HV.out, HH.out]; rfl, HB5.out⟩


set_option maxRecDepth 100000 in
set_option maxHeartbeats 2000000 in
theorem floor07_zero (w : World) :
    Calls Tryz.prog 50 #[.agg #[.bool false, .string (bs 0), .string (bs 1)]] w (Ret w (.tuple #[.int .i64 0, .int .i64 0])) := by
  have h1 : 1 < LIM := Nat.lt_of_lt_of_le (by decide : 1 < 256 ^ 1) (Nat.pow_le_pow_right (by omega) (by omega))
  have hr : RatS false (bs 0) (bs 1) := ⟨short_of LIM_pos, short_of h1, by rw [bv_bs]; omega, by rw [bv_bs, bv_bs]; rfl, fun e => by cases e⟩
  have HC := Lib.hid (fun W => check07_any false (bs 0) (bs 1) W)
  rw [rchk_ok hr] at HC
  have HD := Lib.hid (fun W => div06_any (bs 0) (bs 1) W (short_of LIM_pos) (short_of h1) (by rw [bv_bs]; omega))
  simp only [bv_bs, Nat.zero_div, Nat.zero_mod] at HD
  have HW := Lib.hid (fun W => whole07_any false 0 W (by decide))
  have e1 : wholeV false 0 = .tuple #[.int .i64 0, .int .i64 0] := by unfold wholeV; rw [if_pos (by omega)]; rfl
  rw [e1] at HW
  have t1 : ¬ (8 : Int) < ((bs 0).size : Int) := by rw [bs_size]; decide
  clear h1 hr e1
  generalize bs 1 = xd at *
  generalize bs 0 = xn at *
  go_enter Tryz.func50, Tryz.ntmps50
  go_wp2_with fail
  refine (HC.out _).mono ?_
  rintro e w1 ⟨rfl, hb1⟩
  have K1 := Lib.hid ((Blk.new w [.bool false, .string xn, .string xd] 25).below hb1 (by simp))
  have HB1 := Lib.hid (((Below.refl w.heap.size w).alloc (Nat.le_refl _) _).trans (hb1.mono (by simp)))
  clear hb1
  obtain ⟨q0, _⟩ := K1.out.at 0 _ rfl
  obtain ⟨q1, _⟩ := K1.out.at 1 _ rfl
  obtain ⟨q2, _⟩ := K1.out.at 2 _ rfl
  go_wp2_with fail
  refine (HD.out _).mono ?_
  rintro e w2 ⟨rfl, hb2⟩
  have K2 := Lib.hid (K1.out.below hb2 K1.out.lt)
  have HB2 := Lib.hid (HB1.out.trans (hb2.mono HB1.out.size))
  clear hb2 HB1 K1 q0 q1 q2
  obtain ⟨q0, _⟩ := K2.out.at 0 _ rfl
  obtain ⟨q1, _⟩ := K2.out.at 1 _ rfl
  obtain ⟨q2, _⟩ := K2.out.at 2 _ rfl
  go_wp2_with fail
  refine (HW.out _).mono ?_
  rintro e w5 ⟨rfl, hb5⟩
  have HB5 := Lib.hid (HB2.out.trans (hb5.mono HB2.out.size))
  clear hb5
  go_wp2
  go_ret2
  exact ⟨rfl, HB5.out⟩

set_option maxRecDepth 100000 in
set_option maxHeartbeats 2000000 in
theorem ceil07_any (a : Rt) (w : World) (ha : a.ok) (hn : a.neg = false) :
    Calls Tryz.prog 24 #[ratV a] w (Ret w (ceilV (ceilR a))) := by
  have hr := RatS.of ha
  have HC := Lib.hid (fun W => check07_any a.neg (bs a.n) (bs a.d) W)
  rw [rchk_ok hr] at HC
  have HO := Lib.hid (fun W => opposite_any (bs a.n) (bs a.d) W)
  rw [bs_isEmpty] at HO
  have HF : Hid (∀ W, ∃ k : Int, ∃ e : Int, Calls Tryz.prog 50 #[.agg #[.bool (!(a.n == 0)), .string (bs a.n), .string (bs a.d)]] W (Ret W (.tuple #[.int .i64 k, .int .i64 e])) ∧ ceilV (ceilR a) = .tuple #[.int .i64 (-k), .int .i64 e] ∧ -9223372036854775807 ≤ k ∧ k ≤ 0) := fun W => by
    by_cases h0 : a.n = 0
    · have hd : a.d = 1 := by have := ha.2.2.2.1; rw [h0, Nat.gcd_zero_left] at this; exact this
      have e : ceilR a = some 0 := by unfold ceilR; rw [h0, hd]; rfl
      refine ⟨0, 0, ?_, by rw [e]; rfl, by omega, by omega⟩
      rw [h0, hd]
      exact floor07_zero W
    · have hb : (!(a.n == 0)) = true := by simp [h0]
      rw [hb]
      have := floor07_neg a W ha h0
      unfold floorV at this
      cases hc : ceilR a with
      | none =>
        rw [hc] at this
        exact ⟨0, 2, this, rfl, by omega, by omega⟩
      | some k =>
        rw [hc] at this
        have hk : k ≤ 4611686018427387904 := by
          unfold ceilR at hc
          split at hc
          · split at hc
            · cases hc; assumption
            · split at hc
              · cases hc; assumption
              · cases hc
          · cases hc
        exact ⟨-(k : Int), 0, this, by rw [Int.neg_neg]; rfl, by omega, by omega⟩
  unfold ratV
  generalize ceilV (ceilR a) = V at *
  rw [hn] at HC
  rw [hn]
  clear ha hr hn
  obtain ⟨an, x, y⟩ := a
  simp only at *
  generalize bs x = xn at *
  generalize bs y = xd at *
  generalize (!(x == 0)) = z at *
  go_enter Tryz.func24, Tryz.ntmps24
  go_wp2_with fail
  refine (HC.out _).mono ?_
  rintro e w1 ⟨rfl, hb1⟩
  have K1 := Lib.hid ((Blk.new w [.bool false, .string xn, .string xd] 25).below hb1 (by simp))
  have HB1 := Lib.hid (((Below.refl w.heap.size w).alloc (Nat.le_refl _) _).trans (hb1.mono (by simp)))
  clear hb1
  obtain ⟨q0, _⟩ := K1.out.at 0 _ rfl
  obtain ⟨q1, _⟩ := K1.out.at 1 _ rfl
  obtain ⟨q2, _⟩ := K1.out.at 2 _ rfl
  go_wp2_with fail
  refine (HO.out _).mono ?_
  rintro e w2 ⟨rfl, hb2⟩
  have HB2 := Lib.hid (HB1.out.trans (hb2.mono HB1.out.size))
  clear hb2 HB1 K1 q0 q1 q2
  obtain ⟨k, e1, h1, h2, h3, h4⟩ := HF.out w2
  have HV := Lib.hid h2
  have yw : IntKind.i64.wrap (-k) = -k := by rw [IntKind.wrap_i64]; omega
  clear h2 HF
  have H1 := Lib.hid h1
  clear h1
  go_wp2_with fail
  refine H1.out.mono ?_
  rintro e w3 ⟨rfl, hb3⟩
  have HB3 := Lib.hid (HB2.out.trans (hb3.mono HB2.out.size))
  clear hb3
  go_wp2
  go_ret2
  exact ⟨by rw [HV.out]; rfl, HB3.out⟩

theorem amount07 (n : Int) (k : Nat) (w : World) (hn : 0 ≤ n) (h : ∀ W, Calls Tryz.prog 76 #[.int .i64 n] W (Ret W (.tuple #[.string (bs k), .int .i64 0]))) :
    Calls Tryz.prog 48 #[.int .i64 n] w (Ret w (.string (bs k))) := by
  have H := Lib.hid h
  clear h
  generalize bs k = sk at *
  go_enter Tryz.func48, Tryz.ntmps48
  go_wp2_with fail
  refine (H.out _).mono ?_
  rintro e w1 ⟨rfl, hb1⟩
  have HB1 := Lib.hid hb1
  clear hb1
  go_wp2
  go_ret
  exact ⟨rfl, HB1.out⟩

set_option maxRecDepth 100000 in
set_option maxHeartbeats 2000000 in
theorem new07 (w : World) : Calls Tryz.prog 20 #[.int .i64 0, .int .i64 1] w (Ret w (.tuple #[.agg #[.bool false, .string (bs 0), .string (bs 1)], .int .i64 0])) := by
  have h1 : 1 < LIM := Nat.lt_of_lt_of_le (by decide : 1 < 256 ^ 1) (Nat.pow_le_pow_right (by omega) (by omega))
  have HA0 := Lib.hid (fun W => amount07 0 0 W (by omega) of06_zero)
  have HA1 := Lib.hid (fun W => amount07 1 1 W (by omega) of06_one)
  have HL := Lib.hid (fun W => lowest07_any false 0 1 W LIM_pos h1 (by omega))
  have e : ratV (lowR false 0 1) = .agg #[.bool false, .string (bs 0), .string (bs 1)] := by simp [ratV, lowR]
  rw [e] at HL
  clear e h1
  generalize bs 0 = s0 at *
  generalize bs 1 = s1 at *
  go_enter Tryz.func20, Tryz.ntmps20
  go_wp2_with fail
  refine (HA0.out _).mono ?_
  rintro e w1 ⟨rfl, hb1⟩
  have K1 := Lib.hid ((Blk.new w [.bool false, .string ⟨#[]⟩, .string ⟨#[]⟩] 25).below hb1 (by simp))
  have HB1 := Lib.hid (((Below.refl w.heap.size w).alloc (Nat.le_refl _) _).trans (hb1.mono (by simp)))
  clear hb1
  go_wp2_with fail
  refine (HA1.out _).mono ?_
  rintro e w2 ⟨rfl, hb2⟩
  have K2 := Lib.hid (K1.out.below hb2 K1.out.lt)
  have HB2 := Lib.hid (HB1.out.trans (hb2.mono HB1.out.size))
  clear hb2 HB1 K1
  go_wp2_with fail
  refine (HL.out _).mono ?_
  rintro e w3 ⟨rfl, hb3⟩
  have K3 := Lib.hid (K2.out.below hb3 K2.out.lt)
  have HB3 := Lib.hid (HB2.out.trans (hb3.mono HB2.out.size))
  clear hb3 HB2 K2
  obtain ⟨r0, f0⟩ := K3.out.at 0 _ rfl
  obtain ⟨r1, f1⟩ := K3.out.at 1 _ rfl
  obtain ⟨r2, f2⟩ := K3.out.at 2 _ rfl
  go_wp2
  refine bodyPost_ret (v := .tuple #[.agg #[.bool false, .string s0, .string s1], .int .i64 0]) (by simp [results, Tryz.results20, go_sem, r0, r1, r2]) rfl ⟨rfl, ?_⟩
  exact ((HB3.out.setCell (by simp) _).setCell (by simp) _).setCell (by simp) _
end Go.Proofs.YtoolanjbmbcaiaaGreatDoor
