/- The law MerkleNarrows over the plain functions. No condition. -/
import Derived.Test.YtfihfbkjomploaaPuNarrow
namespace Go.Proofs.Ytfihfbkjomploaa.X
open Go Go.RowKit Go.Proofs.Ytfihfbkjomploaa.Sx Go.Proofs.Ytfihfbkjomploaa.Rnd Go.Proofs.Ytfihfbkjomploaa.Sum
set_option linter.unusedVariables false
set_option linter.unusedSimpArgs false
def cpl (x : Int) : Int := Go.bits .xor .u64 18446744073709551615 x
def fil (a b : List Int) : List Int := a ++ (b.drop a.length).map cpl
theorem fil_length (a b : List Int) : (fil a b).length = max a.length b.length := by unfold fil; simp; omega
theorem fil_drop (a b : List Int) : (fil a b).drop b.length = a.drop b.length := by
  unfold fil
  rcases Nat.le_total b.length a.length with h | h
  · rw [List.drop_eq_nil_of_le (as := b) h]; simp
  · rw [List.drop_eq_nil_of_le (as := a) h, List.drop_eq_nil_of_le (by simp; omega)]
theorem fil_loop (b : List Int) (hb : b.length ≤ 4096) : ∀ (d i : Nat) (acc : List Int), b.length ≤ i + d → acc.length = i ∨ b.length ≤ i → acc.length ≤ 4096 → i ≤ 4096 →
    loop (σ := (List Int) × Int) (ρ := (List Int)) (fun s_ => merkle_filled_l2 b s_.1 s_.2) (acc, (i : Int)) = some (acc ++ (b.drop i).map cpl) := by
  intro d
  induction d with
  | zero =>
    intro i acc hd _ _ _
    have hs : merkle_filled_l2 b acc (i : Int) = some (.inr acc) := by unfold merkle_filled_l2; rw [cnd_dec, if_neg (by omega)]
    rw [loop_inr (s := (acc, (i : Int))) hs, List.drop_eq_nil_of_le (by omega)]; simp
  | succ d ih =>
    intro i acc hd ha h4 h5
    by_cases h : i < b.length
    · have hs : merkle_filled_l2 b acc (i : Int) = some (.inl (acc ++ [cpl b[i]], ((i + 1 : Nat) : Int))) := by
        unfold merkle_filled_l2
        rw [cnd_dec, if_pos (by omega), idx_get h]
        simp only [Option.bind_some]
        rw [app_ok (by simp; omega), i64ok (by omega) (by omega)]
        rfl
      rw [loop_inl (s := (acc, (i : Int))) hs, ih (i + 1) _ (by omega) (by left; simp; omega) (by simp; omega) (by omega), List.drop_eq_getElem_cons h, List.map_cons]
      simp only [List.append_assoc, List.cons_append, List.nil_append]
    · have hs : merkle_filled_l2 b acc (i : Int) = some (.inr acc) := by unfold merkle_filled_l2; rw [cnd_dec, if_neg (by omega)]
      rw [loop_inr (s := (acc, (i : Int))) hs, List.drop_eq_nil_of_le (by omega)]; simp
theorem filled_eq {a b : List Int} (ha : a.length ≤ 4096) (hb : b.length ≤ 4096) : merkle_filled a b = some (fil a b) := by
  unfold merkle_filled
  rw [app_ok (by simp; omega)]
  simp only [Option.bind_some, List.nil_append]
  rw [fil_loop b hb b.length a.length a (by omega) (.inl rfl) ha ha]; rfl
theorem ref_fill (b : List Int) (hb : b.length ≤ 4096) (step : List Int → Option (List Int ⊕ List Int))
    (h1 : ∀ l : List Int, l.length < b.length → ∀ x, b[l.length]? = some x → l.length ≤ 4096 → step l = some (.inl (l ++ [cpl x]))) (h2 : ∀ l : List Int, b.length ≤ l.length → step l = some (.inr l)) : ∀ (d : Nat) (a : List Int), b.length ≤ a.length + d → a.length ≤ 4096 → loop step a = some (fil a b) := by
  intro d
  induction d with
  | zero => intro a hd _; rw [loop_inr (h2 a (by omega))]; unfold fil; rw [List.drop_eq_nil_of_le (by omega)]; simp
  | succ d ih =>
    intro a hd ha
    by_cases h : a.length < b.length
    · rw [loop_inl (h1 a h _ (List.getElem?_eq_getElem h) ha), ih _ (by simp; omega) (by simp; omega)]
      unfold fil
      rw [List.length_append, List.drop_eq_getElem_cons h, List.map_cons]
      simp only [List.append_assoc, List.cons_append, List.nil_append, List.length_cons, List.length_nil]
    · rw [loop_inr (h2 a (by omega))]; unfold fil; rw [List.drop_eq_nil_of_le (by omega)]; simp
/-- The first leaf that differs, by halves. -/
def narH (A B : List Int) (at_ asked : Nat) : Nat × Nat :=
  if h : A.length ≤ 1 then (at_, asked)
  else if top (A.take (hf A.length)) ≠ top (B.take (hf A.length)) then narH (A.take (hf A.length)) (B.take (hf A.length)) at_ (asked + 1)
  else narH (A.drop (hf A.length)) (B.drop (hf A.length)) (at_ + hf A.length) (asked + 1)
termination_by A.length
decreasing_by
  · have := hf_ok (n := A.length) (by omega); rw [List.length_take]; omega
  · have := hf_ok (n := A.length) (by omega); rw [List.length_drop]; omega
theorem narH_one {A B : List Int} {p q : Nat} (h : A.length ≤ 1) : narH A B p q = (p, q) := by rw [narH, dif_pos h]
theorem narH_more {A B : List Int} {p q : Nat} (h : ¬ A.length ≤ 1) : narH A B p q = if top (A.take (hf A.length)) ≠ top (B.take (hf A.length)) then narH (A.take (hf A.length)) (B.take (hf A.length)) p (q + 1) else narH (A.drop (hf A.length)) (B.drop (hf A.length)) (p + hf A.length) (q + 1) := by
  rw [narH, dif_neg h]
def pr (r : Nat × Nat) : Int × Int := ((r.1 : Int), (r.2 : Int))
theorem nar_loop (A B : List Int) (hn : A.length = B.length) (h1 : 1 ≤ A.length) (h4 : A.length ≤ 4096) : ∀ (j p q : Nat), j < (lv A).length → p * 2 ^ j < A.length → q + j ≤ 5000 →
    loop (σ := Int × Int × Int) (ρ := Int × Int) (fun s_ => merkle_Narrow_l2 (lv A) (lv B) s_.1 s_.2.1 s_.2.2) ((p : Int), (q : Int), (j : Int) - 1) = some (pr (narH (sg A j p) (sg B j p) (p * 2 ^ j) q)) := by
  intro j
  induction j with
  | zero =>
    intro p q hj hp hq
    have hs : merkle_Narrow_l2 (lv A) (lv B) (p : Int) (q : Int) (((0 : Nat) : Int) - 1) = some (.inr ((p : Int), (q : Int))) := by unfold merkle_Narrow_l2; rw [cnd_dec, if_neg (by omega)]
    rw [loop_inr (s := ((p : Int), (q : Int), ((0 : Nat) : Int) - 1)) hs, narH_one (by rw [sg_length]; simp; omega)]
    simp [pr]
  | succ j ih =>
    intro p q hj hp hq
    have hlB : (lv B).length = (lv A).length := lv_len_eq _ B A rfl hn
    have hpow : 1 ≤ 2 ^ j := Nat.one_le_two_pow
    have e1 : p * 2 ^ (j + 1) = 2 * p * 2 ^ j := by rw [Nat.pow_succ, Nat.mul_comm (2 ^ j) 2, ← Nat.mul_assoc, Nat.mul_comm p 2]
    have hp2 : 2 * p ≤ 2 * p * 2 ^ j := Nat.le_mul_of_pos_right _ (by omega)
    have w1 : IntKind.i64.wrap ((p : Int) * 2) = ((2 * p : Nat) : Int) := by rw [i64ok (by omega) (by omega)]; omega
    have w2 : IntKind.i64.wrap (((2 * p : Nat) : Int) + 1) = ((2 * p + 1 : Nat) : Int) := by rw [i64ok (by omega) (by omega)]; omega
    have w3 : (((j + 1 : Nat) : Int) - 1) = (j : Int) := by omega
    have w4 : IntKind.i64.wrap ((j : Int) - 1) = (j : Int) - 1 := i64ok (by omega) (by omega)
    have w5 : IntKind.i64.wrap ((q : Int) + 1) = ((q + 1 : Nat) : Int) := by rw [i64ok (by omega) (by omega)]; omega
    have xA : idx (lv A) (j : Int) = some (lvl j A) := by rw [idx_nat, lv_get _ A rfl j (by omega)]
    have xB : idx (lv B) (j : Int) = some (lvl j B) := by rw [idx_nat, lv_get _ B rfl j (by omega)]
    have hsl := sg_length A (j + 1) p
    have hsb := sg_length B (j + 1) p
    have hp0 := hp
    rw [Nat.pow_succ] at e1 hsl hsb hp
    by_cases hone : (2 * p + 1) * 2 ^ j < A.length
    · rw [Nat.add_mul] at hone
      have hh := hf_pow (m := (sg A (j + 1) p).length) (j := j) (by omega) (by rw [Nat.pow_succ]; omega)
      have hL : 2 * p + 1 < (lvl j A).length := (lvl_has A j _).2 (by rw [Nat.add_mul]; omega)
      have yA : idx (lvl j A) ((2 * p : Nat) : Int) = some (top (sg A j (2 * p))) := by rw [idx_nat, lvl_get A j (2 * p) (by omega)]
      have yB : idx (lvl j B) ((2 * p : Nat) : Int) = some (top (sg B j (2 * p))) := by rw [idx_nat, lvl_get B j (2 * p) (by omega)]
      rw [w3, narH_more (by omega), hh, sg_left, sg_left, sg_right, sg_right]
      by_cases ht : top (sg A j (2 * p)) = top (sg B j (2 * p))
      · have hs : merkle_Narrow_l2 (lv A) (lv B) (p : Int) (q : Int) (j : Int) = some (.inl (((2 * p + 1 : Nat) : Int), ((q + 1 : Nat) : Int), (j : Int) - 1)) := by
          unfold merkle_Narrow_l2
          rw [cnd_dec, if_pos (by omega), xA]
          simp only [Option.bind_some, w1, w2, yA, xB, yB, w5]
          rw [cnd_beq, if_neg (by omega), cnd_beq, if_pos ht]
          simp only [merkle_Narrow_j3, w4]
        rw [loop_inl (s := ((p : Int), (q : Int), (j : Int))) hs, ih (2 * p + 1) (q + 1) (by omega) (by rw [Nat.add_mul]; omega) (by omega), if_neg (fun h => h ht)]
        rw [Nat.add_mul, Nat.pow_succ, e1, Nat.one_mul]
      · have hs : merkle_Narrow_l2 (lv A) (lv B) (p : Int) (q : Int) (j : Int) = some (.inl (((2 * p : Nat) : Int), ((q + 1 : Nat) : Int), (j : Int) - 1)) := by
          unfold merkle_Narrow_l2
          rw [cnd_dec, if_pos (by omega), xA]
          simp only [Option.bind_some, w1, w2, yA, xB, yB, w5]
          rw [cnd_beq, if_neg (by omega), cnd_beq, if_neg ht]
          simp only [merkle_Narrow_j3, w4]
        rw [loop_inl (s := ((p : Int), (q : Int), (j : Int))) hs, ih (2 * p) (q + 1) (by omega) (by omega) (by omega), if_pos ht]
        rw [Nat.pow_succ, e1]
    · have hL : (lvl j A).length = 2 * p + 1 := by
        have h1 := (lvl_has A j (2 * p)).2 (by omega)
        have h2 := (lvl_has A j (2 * p + 1)).1
        omega
      rw [Nat.add_mul] at hone
      have hs : merkle_Narrow_l2 (lv A) (lv B) (p : Int) (q : Int) (j : Int) = some (.inl (((2 * p : Nat) : Int), (q : Int), (j : Int) - 1)) := by
        unfold merkle_Narrow_l2
        rw [cnd_dec, if_pos (by omega), xA]
        simp only [Option.bind_some, w1, w2]
        rw [cnd_beq, if_pos (by rw [hL])]
        simp only [merkle_Narrow_j3, w4]
      rw [w3, loop_inl (s := ((p : Int), (q : Int), (j : Int))) hs, ih (2 * p) q (by omega) (by omega) (by omega), sg_one A j p (by omega), sg_one B j p (by omega)]
      rw [Nat.pow_succ, e1]
theorem nar_ref : ∀ (n : Nat) (A B : List Int) (p q : Nat), A.length = n → B.length = n → n ≤ 4096 → p + n ≤ 5000 → q + n ≤ 5000 →
    loop (σ := (List Int) × (List Int) × Int × Int) (ρ := Int × Int) (fun s_ => tourref1_Narrowed_v2_l4 s_.1 s_.2.1 s_.2.2.1 s_.2.2.2) (A, B, (p : Int), (q : Int)) = some (pr (narH A B p q)) := by
  intro n
  induction n using Nat.strongRecOn with
  | _ n ih =>
    intro A B p q hA hB hn hp hq
    by_cases h : n ≤ 1
    · have hs : tourref1_Narrowed_v2_l4 A B (p : Int) (q : Int) = some (.inr ((p : Int), (q : Int))) := by unfold tourref1_Narrowed_v2_l4; rw [cnd_dec, if_neg (by omega)]
      rw [loop_inr (s := (A, B, (p : Int), (q : Int))) hs, narH_one (by omega)]; rfl
    · have hh := hf_ok (n := A.length) (by omega)
      have hhe : hf A.length = hf A.length := rfl
      have c1 : cut A 0 (hf A.length : Int) = some (A.take (hf A.length)) := by rw [cut_ok (by omega) (by omega) (by omega)]; simp
      have c2 : cut B 0 (hf A.length : Int) = some (B.take (hf A.length)) := by rw [cut_ok (by omega) (by omega) (by omega)]; simp
      have c3 : cut A (hf A.length : Int) (A.length : Int) = some (A.drop (hf A.length)) := by
        rw [cut_ok (by omega) (by omega) (by omega)]; simp only [Int.toNat_natCast]; rw [List.take_of_length_le (by rw [List.length_drop]; omega)]
      have c4 : cut B (hf A.length : Int) (B.length : Int) = some (B.drop (hf A.length)) := by
        rw [cut_ok (by omega) (by omega) (by omega)]; simp only [Int.toNat_natCast]; rw [List.take_of_length_le (by rw [List.length_drop]; omega)]
      have w5 : IntKind.i64.wrap ((q : Int) + 1) = ((q + 1 : Nat) : Int) := by rw [i64ok (by omega) (by omega)]; omega
      have w6 : IntKind.i64.wrap ((p : Int) + (hf A.length : Int)) = ((p + hf A.length : Nat) : Int) := by rw [i64ok (by omega) (by omega)]; omega
      have t1 := top_eq (l := A.take (hf A.length)) (by rw [List.length_take]; omega)
      have t2 := top_eq (l := B.take (hf A.length)) (by rw [List.length_take]; omega)
      rw [narH_more (by omega)]
      by_cases ht : top (A.take (hf A.length)) = top (B.take (hf A.length))
      · have hs : tourref1_Narrowed_v2_l4 A B (p : Int) (q : Int) = some (.inl (A.drop (hf A.length), B.drop (hf A.length), ((p + hf A.length : Nat) : Int), ((q + 1 : Nat) : Int))) := by
          unfold tourref1_Narrowed_v2_l4
          rw [cnd_dec, if_pos (by omega), half_eq (by omega) (by omega)]
          simp only [Option.bind_some, c1, c2, t1, t2, tourref1_Narrowed_v2_j5]
          rw [cnd_not, cnd_beq, if_pos ht]
          simp only [c3, c4, Option.bind_some, w5, w6]
        rw [loop_inl (s := (A, B, (p : Int), (q : Int))) hs, if_neg (fun h => h ht)]
        exact ih (A.drop (hf A.length)).length (by rw [List.length_drop]; omega) _ _ _ _ rfl (by rw [List.length_drop, List.length_drop]; omega) (by rw [List.length_drop]; omega) (by rw [List.length_drop]; omega) (by rw [List.length_drop]; omega)
      · have hs : tourref1_Narrowed_v2_l4 A B (p : Int) (q : Int) = some (.inl (A.take (hf A.length), B.take (hf A.length), (p : Int), ((q + 1 : Nat) : Int))) := by
          unfold tourref1_Narrowed_v2_l4
          rw [cnd_dec, if_pos (by omega), half_eq (by omega) (by omega)]
          simp only [Option.bind_some, c1, c2, t1, t2, tourref1_Narrowed_v2_j5]
          rw [cnd_not, cnd_beq, if_neg ht]
          simp only [c1, c2, Option.bind_some, w5]
        rw [loop_inl (s := (A, B, (p : Int), (q : Int))) hs, if_pos ht]
        exact ih (A.take (hf A.length)).length (by rw [List.length_take]; omega) _ _ _ _ rfl (by rw [List.length_take, List.length_take]; omega) (by rw [List.length_take]; omega) (by rw [List.length_take]; omega) (by rw [List.length_take]; omega)
def narS (a b : List Int) : Int × Int := if top (fil a b) = top (fil b a) then (-1, 1) else pr (narH (fil a b) (fil b a) 0 1)
theorem narrow_eq {a b : List Int} (h0 : max a.length b.length ≠ 0) (h4 : max a.length b.length ≤ 4096) : merkle_Narrow a b = some (narS a b) := by
  unfold merkle_Narrow
  have hfa := fil_length a b
  have hfb := fil_length b a
  have hl := lv_length (fil a b)
  have htA := lv_top _ (fil a b) rfl (by omega)
  have hle := lv_len_eq _ (fil b a) (fil a b) rfl (by omega)
  have htB := lv_top _ (fil b a) rfl (by omega)
  rw [hle] at htB
  rw [cnd_beq, if_neg (by omega), cnd_dec, if_neg (by omega), filled_eq (by omega) (by omega), filled_eq (by omega) (by omega)]
  simp only [Option.bind_some]
  rw [levels_eq (by omega), levels_eq (by omega)]
  simp only [Option.bind_some]
  have w1 : IntKind.i64.wrap (((lv (fil a b)).length : Int) - 1) = (((lv (fil a b)).length - 1 : Nat) : Int) := by rw [i64ok (by omega) (by omega)]; omega
  have w2 : IntKind.i64.wrap ((((lv (fil a b)).length - 1 : Nat) : Int) - 1) = (((lv (fil a b)).length - 1 : Nat) : Int) - 1 := i64ok (by omega) (by omega)
  rw [w1, w2, idx_nat, idx_nat, lv_get _ (fil a b) rfl _ (by omega), lv_get _ (fil b a) rfl _ (by omega)]
  simp only [Option.bind_some]
  have i0 : ∀ l : List Int, idx l 0 = l[0]? := fun l => idx_nat l 0
  rw [i0, i0, lvl_get _ _ _ (by omega), lvl_get _ _ _ (by omega), sg_all htA.2, sg_all (by omega)]
  simp only [Option.bind_some]
  rw [cnd_beq]
  unfold narS
  by_cases ht : top (fil a b) = top (fil b a)
  · rw [if_pos ht, if_pos ht]
  · rw [if_neg ht, if_neg ht]
    have hL := nar_loop (fil a b) (fil b a) (by omega) (by omega) (by omega) ((lv (fil a b)).length - 1) 0 1 (by omega) (by omega) (by omega)
    rw [sg_all htA.2, sg_all (by omega), Nat.zero_mul] at hL
    exact congrArg (fun o => o.bind fun e_ : Int × Int => merkle_Narrow_j1 e_.1 e_.2) hL
theorem clone_eq {l : List Int} (h : l.length * 8 ≤ 140737488355328) : slices_Clone_uint64_uint64 l = some l := by
  unfold slices_Clone_uint64_uint64; rw [app_ok (by simpa using h)]; rfl
theorem narrowed_eq {a b : List Int} (h0 : max a.length b.length ≠ 0) (h4 : max a.length b.length ≤ 4096) : tourref1_Narrowed_v2 a b = some (narS a b) := by
  unfold tourref1_Narrowed_v2
  have hfa := fil_length a b
  have hfb := fil_length b a
  rw [clone_eq (by omega), clone_eq (by omega)]
  simp only [Option.bind_some]
  rw [ref_fill b (by omega) (fun s_ => tourref1_Narrowed_v2_l7 b s_) (fun l h x hx hl => by
      show tourref1_Narrowed_v2_l7 b l = _
      unfold tourref1_Narrowed_v2_l7
      rw [cnd_dec, if_pos (by omega), idx_nat, hx]
      simp only [Option.bind_some]
      rw [app_ok (by simp; omega)]; rfl) (fun l h => by
      show tourref1_Narrowed_v2_l7 b l = _
      unfold tourref1_Narrowed_v2_l7
      rw [cnd_dec, if_neg (by omega)]) b.length a (by omega) (by omega)]
  simp only [Option.bind_some, tourref1_Narrowed_v2_j1]
  rw [ref_fill (fil a b) (by omega) (fun s_ => tourref1_Narrowed_v2_l6 (fil a b) s_) (fun l h x hx hl => by
      show tourref1_Narrowed_v2_l6 (fil a b) l = _
      unfold tourref1_Narrowed_v2_l6
      rw [cnd_dec, if_pos (by omega), idx_nat, hx]
      simp only [Option.bind_some]
      rw [app_ok (by simp; omega)]; rfl) (fun l h => by
      show tourref1_Narrowed_v2_l6 (fil a b) l = _
      unfold tourref1_Narrowed_v2_l6
      rw [cnd_dec, if_neg (by omega)]) (fil a b).length b (by omega) (by omega)]
  have e : fil b (fil a b) = fil b a := by
    show b ++ ((fil a b).drop b.length).map cpl = b ++ (a.drop b.length).map cpl
    rw [fil_drop]
  rw [e]
  simp only [Option.bind_some, tourref1_Narrowed_v2_j2]
  rw [top_eq (by omega), top_eq (by omega)]
  simp only [Option.bind_some]
  rw [cnd_beq]
  unfold narS
  by_cases ht : top (fil a b) = top (fil b a)
  · rw [if_pos ht, if_pos ht]
  · rw [if_neg ht, if_neg ht]
    have := nar_ref _ (fil a b) (fil b a) 0 1 rfl (by omega) (by omega) (by omega) (by omega)
    exact congrArg (fun o => o.bind fun e_ : Int × Int => tourref1_Narrowed_v2_j3 e_.1 e_.2) this
theorem hf2 : hf 2 = 1 := by decide
theorem hf3 : hf 3 = 2 := by decide
theorem tops_differ : joinv (joinv 1 2) 3 ≠ joinv (joinv 1 2) 4 := by decide +kernel
theorem top_three (a b c : Int) : top [a, b, c] = joinv (joinv a b) c := by
  rw [top_more (by simp)]
  simp only [List.length_cons, List.length_nil, Nat.zero_add, Nat.reduceAdd, hf3, List.take_succ_cons, List.take_zero, List.drop_succ_cons, List.drop_zero]
  rw [top_more (l := [a, b]) (by simp), top_one (l := [c]) (by simp)]
  simp only [List.length_cons, List.length_nil, Nat.zero_add, Nat.reduceAdd, hf2, List.take_succ_cons, List.take_zero, List.drop_succ_cons, List.drop_zero]
  rw [top_one (l := [a]) (by simp), top_one (l := [b]) (by simp)]
  rfl
theorem begun_eq : tourlaw1_merkleBegun = some true := by
  unfold tourlaw1_merkleBegun
  rw [narrow_eq (by simp) (by simp)]
  have f1 : fil [1, 2, 3] [1, 2, 4] = [1, 2, 3] := by simp [fil]
  have f2 : fil [1, 2, 4] [1, 2, 3] = [1, 2, 4] := by simp [fil]
  have e : narS [1, 2, 3] [1, 2, 4] = (2, 2) := by
    unfold narS
    rw [f1, f2, top_three, top_three, if_neg tops_differ, narH_more (by simp)]
    simp only [List.length_cons, List.length_nil, Nat.zero_add, Nat.reduceAdd, hf3, List.take_succ_cons, List.take_zero, List.drop_succ_cons, List.drop_zero]
    rw [if_neg (by simp), narH_one (by simp)]; rfl
  rw [e]; rfl
theorem MerkleNarrows_true (a : List Int) (b : List Int) (h0 : (okl 8 (okk .u64)) a) (h1 : (okl 8 (okk .u64)) b) : tourlaw1_MerkleNarrows a b = some true := by
  unfold tourlaw1_MerkleNarrows
  rw [begun_eq]
  simp only [Option.bind_some, cnd_not, cnd_true]
  have e : max (a.length : Int) (b.length : Int) = ((max a.length b.length : Nat) : Int) := by omega
  rw [e]
  by_cases hz : max a.length b.length = 0
  · have hm : merkle_Narrow a b = some (-1, 0) := by unfold merkle_Narrow; rw [e, cnd_beq, if_pos (by omega)]
    rw [hm, bnd2_some, cnd_beq, if_pos (by omega)]; rfl
  · by_cases h4 : 4096 < max a.length b.length
    · have hm : merkle_Narrow a b = some (-1, 0) := by unfold merkle_Narrow; rw [e, cnd_beq, if_neg (by omega), cnd_dec, if_pos (by omega)]
      rw [hm, bnd2_some, cnd_beq, if_neg (by omega), cnd_dec, if_pos (by omega)]; rfl
    · rw [narrow_eq hz (by omega), narrowed_eq hz (by omega), bnd2_some, cnd_beq, if_neg (by omega), cnd_dec, if_neg (by omega), bnd2_some]
      simp only [tourlaw1_MerkleNarrows_j3, beq_self_eq_true, cnd_true]
end Go.Proofs.Ytfihfbkjomploaa.X
