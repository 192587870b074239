/- The law BitsWrites over the plain functions. No condition. -/
import Derived.Test.YtfihfbkjomploaaPuBits
namespace Go.Proofs.Ytfihfbkjomploaa.X
open Go Go.RowKit Go.Proofs.Ytfihfbkjomploaa.Sx Go.Proofs.Ytfihfbkjomploaa.Rnd Go.Proofs.Ytfihfbkjomploaa.Nats Go.Proofs.Ytfihfbkjomploaa.Trig Go.Proofs.Ytfihfbkjomploaa.Bits
set_option linter.unusedVariables false
set_option linter.unusedSimpArgs false
def dg (u : Nat) : Nat := if h : u = 0 then 0 else 1 + dg (u / 16)
termination_by u
decreasing_by omega
theorem dg_zero : dg 0 = 0 := by rw [dg, dif_pos rfl]
theorem dg_pos {u : Nat} (h : u ≠ 0) : dg u = 1 + dg (u / 16) := by rw [dg, dif_neg h]
theorem dg_le : ∀ (k u : Nat), u < 16 ^ k → dg u ≤ k := by
  intro k
  induction k with
  | zero => intro u h; have : u = 0 := by simp at h; exact h
            subst this; rw [dg_zero]; omega
  | succ k ih =>
    intro u h
    by_cases h0 : u = 0
    · subst h0; rw [dg_zero]; omega
    · rw [dg_pos h0]
      have := ih (u / 16) (by rw [Nat.pow_succ] at h; omega)
      omega
def natB (v : Nat) : List Bool := lowBits v 4 ++ (if h : v / 16 = 0 then [false] else true :: natB (v / 16))
termination_by v
decreasing_by omega
theorem natB_last {v : Nat} (h : v / 16 = 0) : natB v = lowBits v 4 ++ [false] := by rw [natB, dif_pos h]
theorem natB_more {v : Nat} (h : v / 16 ≠ 0) : natB v = lowBits v 4 ++ (true :: natB (v / 16)) := by rw [natB, dif_neg h]
theorem natB_length : ∀ (v : Nat), (natB v).length = 5 * (dg (v / 16) + 1) := by
  intro v
  induction v using Nat.strongRecOn with
  | _ v ih =>
    by_cases h : v / 16 = 0
    · rw [natB_last h, h, dg_zero]; simp [lowBits_length]
    · rw [natB_more h, dg_pos h, List.length_append, List.length_cons, ih _ (by omega), lowBits_length]; omega
theorem groups_loop : ∀ (u n : Nat), u < 18446744073709551616 → n ≤ 20 → loop (σ := Int × Int) (ρ := Int) (fun s_ => bits_groups_l2 s_.1 s_.2) ((u : Int), (n : Int)) = some ((n + dg u : Nat) : Int) := by
  have hdg : ∀ u, u < 18446744073709551616 → dg u ≤ 16 := fun u h => dg_le 16 u (by omega)
  have key : ∀ (k u n : Nat), u < 16 ^ k → k ≤ 16 → n + k ≤ 40 → loop (σ := Int × Int) (ρ := Int) (fun s_ => bits_groups_l2 s_.1 s_.2) ((u : Int), (n : Int)) = some ((n + dg u : Nat) : Int) := by
    intro k
    induction k with
    | zero =>
      intro u n h _ _
      have : u = 0 := by simp at h; exact h
      subst this
      rw [dg_zero]
      exact loop_inr (s := (((0 : Nat) : Int), (n : Int))) (by show bits_groups_l2 ((0 : Nat) : Int) (n : Int) = _; unfold bits_groups_l2; rw [cnd_dec, if_neg (by omega)]; rfl)
    | succ k ih =>
      intro u n h hk hn
      by_cases h0 : u = 0
      · subst h0
        rw [dg_zero]
        exact loop_inr (s := (((0 : Nat) : Int), (n : Int))) (by show bits_groups_l2 ((0 : Nat) : Int) (n : Int) = _; unfold bits_groups_l2; rw [cnd_dec, if_neg (by omega)]; rfl)
      · have hs : bits_groups_l2 (u : Int) (n : Int) = some (.inl (((u / 16 : Nat) : Int), ((n + 1 : Nat) : Int))) := by
          unfold bits_groups_l2
          rw [cnd_dec, if_pos (by omega), fdiv_lit _ (by omega), i64ok (by omega) (by omega)]; rfl
        rw [loop_inl (s := ((u : Int), (n : Int))) hs, ih (u / 16) (n + 1) (by rw [Nat.pow_succ] at h; omega) (by omega) (by omega), dg_pos h0]
        congr 2; omega
  intro u n hu hn
  exact key 16 u n (by omega) (by omega) (by omega)
def grp (v : Nat) : Nat := dg (v / 16) + 1
theorem grp_le {v : Nat} (h : v < 18446744073709551616) : grp v ≤ 16 := by
  have := dg_le 15 (v / 16) (by omega)
  unfold grp; omega
theorem groups_eq {v : Nat} (h : v < 18446744073709551616) : bits_groups (v : Int) = some (grp v : Int) := by
  unfold bits_groups
  rw [fdiv_lit _ (by omega), show (v : Int) / 16 = ((v / 16 : Nat) : Int) by omega]
  have := groups_loop (v / 16) 1 (by omega) (by omega)
  rw [Nat.add_comm 1] at this
  exact congrArg (fun o => o.bind fun e_ => bits_groups_j1 e_) this
theorem low5 (u m : Nat) (hm : m ≤ 1) : lowBits (u % 16 + m * 16) 5 = lowBits u 4 ++ [m == 1] := by
  simp only [lowBits, List.nil_append, List.append_assoc, List.cons_append]
  have e0 : (u % 16 + m * 16) / 2 ^ 0 % 2 = u / 2 ^ 0 % 2 := by simp; omega
  have e1 : (u % 16 + m * 16) / 2 ^ 1 % 2 = u / 2 ^ 1 % 2 := by simp; omega
  have e2 : (u % 16 + m * 16) / 2 ^ 2 % 2 = u / 2 ^ 2 % 2 := by simp; omega
  have e3 : (u % 16 + m * 16) / 2 ^ 3 % 2 = u / 2 ^ 3 % 2 := by simp; omega
  have e4 : (u % 16 + m * 16) / 2 ^ 4 % 2 = m := by simp; omega
  rw [e0, e1, e2, e3, e4]
theorem and15 {u : Nat} (h : u < 18446744073709551616) : Go.bits .and .u64 (u : Int) 15 = ((u % 16 : Nat) : Int) := by
  rw [show (15 : Int) = ((15 : Nat) : Int) from rfl, Go.u64_and_nat u 15 h (by decide)]
  congr 1
  exact Nat.and_two_pow_sub_one_eq_mod u 4
theorem nat_step {cur : List Bool} {v i m : Nat} (hv : v < 18446744073709551616) (hm : m ≤ 1) (hi : i < 16) (hc : cur.length + 5 ≤ 524288) :
    bits_Writer_Nat_j3 (v : Int) (i : Int) (pack cur) (cur.length : Int) ((m * 2 ^ 4 : Nat) : Int) = some (.inl (pack (cur ++ (lowBits (v / 2 ^ (4 * i)) 4 ++ [m == 1])), (((cur ++ (lowBits (v / 2 ^ (4 * i)) 4 ++ [m == 1])).length : Nat) : Int), ((i + 1 : Nat) : Int))) := by
  unfold bits_Writer_Nat_j3
  have hd : v / 2 ^ (4 * i) ≤ v := Nat.div_le_self _ _
  have hc32 : v / 2 ^ (4 * i) % 16 + m * 16 < 32 := by omega
  rw [i64ok (x := 4 * (i : Int)) (by omega) (by omega), show (4 * (i : Int)) = ((4 * i : Nat) : Int) by omega, shr64 (by omega)]
  simp only [Option.bind_some]
  rw [and15 (by omega), or_u64 (i := 4) (by omega) hm (by omega), put_eq (by omega) (by omega) (by simp [okk])]
  have hp : putE cur (v / 2 ^ (4 * i) % 16 + m * 2 ^ 4) 5 = (0, cur ++ (lowBits (v / 2 ^ (4 * i)) 4 ++ [m == 1])) := by
    unfold putE
    rw [if_neg (by omega), if_neg (by simp; omega), if_neg (by simp; omega), ← low5 _ _ hm]
    rfl
  rw [hp, bnd3_some, i64ok (by omega) (by omega)]
  rfl
theorem nat_loop {v : Nat} (hv : v < 18446744073709551616) : ∀ (d i : Nat) (cur : List Bool), i + d = grp v → 1 ≤ d → d = grp (v / 2 ^ (4 * i)) → cur.length + 5 * d ≤ 524288 →
    loop (σ := (List Int) × Int × Int) (ρ := (List Int) × Int) (fun s_ => bits_Writer_Nat_l2 (grp v : Int) (v : Int) s_.1 s_.2.1 s_.2.2) (pack cur, (cur.length : Int), (i : Int)) = some (pack (cur ++ natB (v / 2 ^ (4 * i))), ((cur ++ natB (v / 2 ^ (4 * i))).length : Int)) := by
  have hg := grp_le hv
  intro d
  induction d with
  | zero => intro i cur _ h; omega
  | succ d ih =>
    intro i cur hi _ hd hc
    have e16 : v / 2 ^ (4 * i) / 16 = v / 2 ^ (4 * (i + 1)) := by rw [Nat.div_div_eq_div_mul, show 4 * (i + 1) = 4 * i + 4 by omega, Nat.pow_add]
    have w : IntKind.i64.wrap ((i : Int) + 1) = ((i + 1 : Nat) : Int) := by rw [i64ok (by omega) (by omega)]; omega
    by_cases hz : v / 2 ^ (4 * i) / 16 = 0
    · have hd0 : d = 0 := by unfold grp at hd; rw [hz, dg_zero] at hd; omega
      subst hd0
      have hs0 : bits_Writer_Nat_l2 (grp v : Int) (v : Int) (pack cur) (cur.length : Int) (i : Int) = bits_Writer_Nat_j3 (v : Int) (i : Int) (pack cur) (cur.length : Int) ((0 * 2 ^ 4 : Nat) : Int) := by
        unfold bits_Writer_Nat_l2
        rw [cnd_dec, if_pos (by omega), w, cnd_dec, if_neg (by omega)]
        rfl
      have hs := hs0.trans (nat_step (m := 0) hv (by omega) (by omega) (by omega))
      rw [loop_inl (s := (pack cur, (cur.length : Int), (i : Int))) hs, natB_last hz]
      exact loop_inr (s := (_, _, ((i + 1 : Nat) : Int))) (by
        show bits_Writer_Nat_l2 (grp v : Int) (v : Int) _ _ ((i + 1 : Nat) : Int) = _
        unfold bits_Writer_Nat_l2; rw [cnd_dec, if_neg (by omega)]; rfl)
    · have hd1 : d = grp (v / 2 ^ (4 * (i + 1))) := by
        rw [← e16]; unfold grp at hd ⊢; rw [dg_pos hz] at hd; omega
      have hd2 : 1 ≤ d := by unfold grp at hd1; omega
      have hs0 : bits_Writer_Nat_l2 (grp v : Int) (v : Int) (pack cur) (cur.length : Int) (i : Int) = bits_Writer_Nat_j3 (v : Int) (i : Int) (pack cur) (cur.length : Int) ((1 * 2 ^ 4 : Nat) : Int) := by
        unfold bits_Writer_Nat_l2
        rw [cnd_dec, if_pos (by omega), w, cnd_dec, if_pos (by omega)]
        rfl
      have hs := hs0.trans (nat_step (m := 1) hv (by omega) (by omega) (by omega))
      rw [loop_inl (s := (pack cur, (cur.length : Int), (i : Int))) hs, natB_more hz, e16]
      have hlen : (cur ++ (lowBits (v / 2 ^ (4 * i)) 4 ++ [(1 : Nat) == 1])).length = cur.length + 5 := by simp [lowBits_length]
      have := ih (i + 1) (cur ++ (lowBits (v / 2 ^ (4 * i)) 4 ++ [(1 : Nat) == 1])) (by omega) hd2 hd1 (by omega)
      rw [this]
      simp only [List.append_assoc, List.cons_append, List.nil_append, beq_self_eq_true]
def natE (bs : List Bool) (v : Nat) : Int × List Bool := if 524288 < bs.length + 5 * grp v then (6, bs) else (0, bs ++ natB v)
theorem nat_eq {bs : List Bool} {v : Nat} (hv : v < 18446744073709551616) (hb : bs.length ≤ 524288) : bits_Writer_Nat (pack bs) (bs.length : Int) (v : Int) = some ((natE bs v).1, pack (natE bs v).2, ((natE bs v).2.length : Int)) := by
  have hg := grp_le hv
  unfold bits_Writer_Nat natE
  rw [groups_eq hv]
  simp only [Option.bind_some]
  rw [i64ok (x := 5 * (grp v : Int)) (by omega) (by omega), i64ok (by omega) (by omega), cnd_dec]
  by_cases h : 524288 < bs.length + 5 * grp v
  · rw [if_pos (by omega), if_pos h]
  · rw [if_neg (by omega), if_neg h]
    have := nat_loop hv (grp v) 0 bs (by omega) (by unfold grp; omega) (by simp) (by omega)
    simp only [Nat.mul_zero, Nat.pow_zero, Nat.div_one] at this
    exact congrArg (fun o => o.bind fun e_ : List Int × Int => bits_Writer_Nat_j1 e_.1 e_.2) this
/-! ### The reference -/
theorem ref4 (u : Nat) (hu : u < 18446744073709551616) (acc : List Bool) (ha : acc.length ≤ 1000) : ∀ (d i : Nat), i + d = 4 →
    loop (σ := Int × (List Bool) × Int) (ρ := Int × (List Bool)) (fun s_ => tourref1_Bits_AddNat_l4 s_.1 s_.2.1 s_.2.2) (((u / 2 ^ i : Nat) : Int), acc ++ lowBits u i, (i : Int)) = some (((u / 16 : Nat) : Int), acc ++ lowBits u 4) := by
  intro d
  induction d with
  | zero =>
    intro i hi
    have : i = 4 := by omega
    subst this
    exact loop_inr (s := (((u / 2 ^ 4 : Nat) : Int), acc ++ lowBits u 4, ((4 : Nat) : Int))) (by
      show tourref1_Bits_AddNat_l4 ((u / 2 ^ 4 : Nat) : Int) (acc ++ lowBits u 4) ((4 : Nat) : Int) = _
      unfold tourref1_Bits_AddNat_l4; rw [cnd_dec, if_neg (by omega)])
  | succ d ih =>
    intro i hi
    have hd : u / 2 ^ i ≤ u := Nat.div_le_self _ _
    have hs : tourref1_Bits_AddNat_l4 ((u / 2 ^ i : Nat) : Int) (acc ++ lowBits u i) (i : Int) = some (.inl (((u / 2 ^ (i + 1) : Nat) : Int), acc ++ lowBits u (i + 1), ((i + 1 : Nat) : Int))) := by
      unfold tourref1_Bits_AddNat_l4
      rw [cnd_dec, if_pos (by omega), tmod2, app_ok (by simp [lowBits_length]; omega)]
      simp only [Option.bind_some]
      rw [tdiv_nat _ (by omega), low_half, i64ok (by omega) (by omega), low_succ, List.append_assoc]
      rfl
    rw [loop_inl (s := (((u / 2 ^ i : Nat) : Int), acc ++ lowBits u i, (i : Int))) hs]
    exact ih (i + 1) (by omega)
theorem ref_nat_loop : ∀ (k u : Nat) (acc : List Bool), u / 16 < 16 ^ k → u < 18446744073709551616 → acc.length + 5 * k ≤ 900 →
    loop (σ := Int × (List Bool) × Bool) (ρ := (List Bool)) (fun s_ => tourref1_Bits_AddNat_l2 s_.1 s_.2.1 s_.2.2) ((u : Int), acc, true) = some (acc ++ natB u) := by
  have stop : ∀ (x : Int) (l : List Bool), loop (σ := Int × (List Bool) × Bool) (ρ := (List Bool)) (fun s_ => tourref1_Bits_AddNat_l2 s_.1 s_.2.1 s_.2.2) (x, l, false) = some l := fun x l =>
    loop_inr (s := (x, l, false)) (by show tourref1_Bits_AddNat_l2 x l false = _; unfold tourref1_Bits_AddNat_l2; rfl)
  have step : ∀ (u : Nat) (acc : List Bool), u < 18446744073709551616 → acc.length ≤ 900 → tourref1_Bits_AddNat_l2 (u : Int) acc true = some (.inl (((u / 16 : Nat) : Int), acc ++ lowBits u 4 ++ [decide (0 < ((u / 16 : Nat) : Int))], decide (0 < ((u / 16 : Nat) : Int)))) := by
    intro u acc hu ha
    unfold tourref1_Bits_AddNat_l2
    rw [cnd_true]
    have := ref4 u hu acc (by omega) 4 0 (by omega)
    rw [show lowBits u 0 = [] from rfl, List.append_nil, Nat.pow_zero, Nat.div_one] at this
    have h2 := congrArg (fun o => o.bind fun e_ : Int × List Bool => tourref1_Bits_AddNat_j3 e_.1 e_.2) this
    refine Eq.trans h2 ?_
    simp only [Option.bind_some, tourref1_Bits_AddNat_j3]
    rw [app_ok (by simp [lowBits_length]; omega)]
    rfl
  intro k
  induction k with
  | zero =>
    intro u acc h hu ha
    have hz : u / 16 = 0 := by simp at h; omega
    rw [loop_inl (s := ((u : Int), acc, true)) (step u acc hu (by omega)), natB_last hz, hz]
    rw [show decide (0 < ((0 : Nat) : Int)) = false by decide, stop, List.append_assoc]
  | succ k ih =>
    intro u acc h hu ha
    by_cases hz : u / 16 = 0
    · rw [loop_inl (s := ((u : Int), acc, true)) (step u acc hu (by omega)), natB_last hz, hz]
      rw [show decide (0 < ((0 : Nat) : Int)) = false by decide, stop, List.append_assoc]
    · have e : decide (0 < ((u / 16 : Nat) : Int)) = true := by simp; omega
      rw [loop_inl (s := ((u : Int), acc, true)) (step u acc hu (by omega)), natB_more hz, e]
      rw [ih (u / 16) _ (by rw [Nat.pow_succ] at h; omega) (by omega) (by simp [lowBits_length]; omega)]
      simp only [List.append_assoc, List.cons_append, List.nil_append]
theorem addnat_eq {bs : List Bool} {v : Nat} {at_ : Int} (hv : v < 18446744073709551616) (hb : bs.length ≤ 524288) : tourref1_Bits_AddNat bs at_ (v : Int) = some (natE bs v) := by
  have hg := grp_le hv
  unfold tourref1_Bits_AddNat natE
  rw [ref_nat_loop 16 v [] (by omega) hv (by simp)]
  simp only [Option.bind_some, List.nil_append, tourref1_Bits_AddNat_j1]
  have hl : (natB v).length = 5 * grp v := natB_length v
  rw [i64ok (by omega) (by omega), cnd_dec]
  by_cases h : 524288 < bs.length + 5 * grp v
  · rw [if_pos (by omega), if_pos h]
  · rw [if_neg (by omega), if_neg h, app_ok (by omega)]; rfl
theorem natE_len {bs : List Bool} {v : Nat} (hb : bs.length ≤ 524288) : (natE bs v).2.length ≤ 524288 := by
  have hl : (natB v).length = 5 * grp v := natB_length v
  unfold natE
  split
  · exact hb
  · simp only [List.length_append]; omega
/-! ### Signs -/
def zig (v : Int) : Nat := if v < 0 then (-2 * v - 1).toNat else (2 * v).toNat
theorem zig_lt {v : Int} (h : (okk .i64) v) : zig v < 18446744073709551616 := by simp only [okk] at h; unfold zig; split <;> omega
theorem zigzag_eq {v : Int} (h : (okk .i64) v) : tourref1_Zigzag v = some (zig v : Int) := by
  simp only [okk] at h
  unfold tourref1_Zigzag zig
  rw [cnd_dec]
  by_cases hv : v < 0
  · rw [if_pos hv, if_pos hv]
    simp only [Option.bind_some]
    rw [i64ok (x := v + 1) (by omega) (by omega), i64ok (x := 0 - (v + 1)) (by omega) (by omega), w64, w64, w64]
    congr 1; omega
  · rw [if_neg hv, if_neg hv, w64, w64]
    congr 1; omega
theorem xor_max {x : Nat} (h : x < 18446744073709551616) : Go.bits .xor .u64 (x : Int) 18446744073709551615 = ((18446744073709551615 - x : Nat) : Int) := by
  rw [show (18446744073709551615 : Int) = ((18446744073709551615 : Nat) : Int) from rfl, Go.u64_xor_nat x _ h (by decide)]
  congr 1
  have := BitVec.toNat_not (x := BitVec.ofNat 64 x)
  rw [← BitVec.xor_allOnes, BitVec.toNat_xor, BitVec.toNat_allOnes, BitVec.toNat_ofNat, Nat.mod_eq_of_lt h] at this
  simpa using this
theorem int_eq {v : Int} (h : (okk .i64) v) : Go.bits .xor .u64 (IntKind.u64.wrap (IntKind.u64.wrap v * 2)) (IntKind.u64.wrap (Int.fdiv v 9223372036854775808)) = (zig v : Int) := by
  simp only [okk] at h
  rw [fdiv_lit _ (by omega), w64, w64, w64]
  unfold zig
  by_cases hv : v < 0
  · rw [if_pos hv, show v / 9223372036854775808 % 18446744073709551616 = 18446744073709551615 by omega]
    obtain ⟨x, hx⟩ := Int.eq_ofNat_of_zero_le (show 0 ≤ v % 18446744073709551616 * 2 % 18446744073709551616 by omega)
    rw [hx, xor_max (by omega)]
    omega
  · rw [if_neg hv, show v / 9223372036854775808 % 18446744073709551616 = ((0 : Nat) : Int) by omega]
    obtain ⟨x, hx⟩ := Int.eq_ofNat_of_zero_le (show 0 ≤ v % 18446744073709551616 * 2 % 18446744073709551616 by omega)
    rw [hx, Go.u64_xor_nat x 0 (by omega) (by decide), Nat.xor_zero]
    omega
theorem wint_eq {bs : List Bool} {v : Int} (h : (okk .i64) v) (hb : bs.length ≤ 524288) : bits_Writer_Int (pack bs) (bs.length : Int) v = some ((natE bs (zig v)).1, pack (natE bs (zig v)).2, ((natE bs (zig v)).2.length : Int)) := by
  unfold bits_Writer_Int
  simp only [Option.bind_some]
  rw [int_eq h, nat_eq (zig_lt h) hb, bnd3_some]
/-! ### The law -/
theorem bbegun_eq : tourlaw1_bitsBegun = some true := by
  unfold tourlaw1_bitsBegun
  have hp : pack [] = ([] : List Int) := rfl
  have h5 : bits_Writer_Put ([] : List Int) 0 5 3 = some (0, pack (lowBits 5 3), 3) := by
    have := put_eq (bs := []) (v := 5) (n := 3) (by omega) (by simp) (by simp [okk])
    exact this
  rw [h5, bnd3_some]
  rw [cnd_beq, if_pos rfl]
  unfold bits_Writer_Len
  simp only [Option.bind_some]
  rw [cnd_beq, if_pos rfl, wbytes_eq (by decide)]
  simp only [Option.bind_some]
  rw [show pack (lowBits 5 3) = ([5] : List Int) by decide, equal8 _ (by decide)]; rfl
theorem u64nat (x : Int) : ∃ n : Nat, IntKind.u64.wrap x = (n : Int) ∧ n < 18446744073709551616 := by
  have h0 := w64_lo x
  have h1 := w64_hi x
  obtain ⟨n, hn⟩ := Int.eq_ofNat_of_zero_le h0
  exact ⟨n, hn, by omega⟩
theorem writes_loop (l : List (Int × Int × Int)) (hl : l.length ≤ 140737488351232) (hok : ∀ a ∈ l, ok_arr3_Int a) : ∀ (d i : Nat) (bs : List Bool), i + d = l.length → bs.length ≤ 524288 →
    ((loop (σ := (List Int) × Int × (List Bool) × Int) (ρ := (Bool ⊕ (List Int) × Int × (List Bool))) (fun s_ => tourlaw1_BitsWrites_l2 l s_.1 s_.2.1 s_.2.2.1 s_.2.2.2) (pack bs, (bs.length : Int), bs, (i : Int))).bind (Sum.elim (fun e_ => some e_) (fun e_ => tourlaw1_BitsWrites_j1 e_.1 e_.2.1 e_.2.2))) = some true := by
  intro d
  induction d with
  | zero =>
    intro i bs hi hb
    rw [loop_inr (s := (pack bs, (bs.length : Int), bs, (i : Int))) (r := .inr (pack bs, (bs.length : Int), bs)) (by
      show tourlaw1_BitsWrites_l2 l (pack bs) (bs.length : Int) bs (i : Int) = _
      unfold tourlaw1_BitsWrites_l2; rw [cnd_dec, if_neg (by omega)])]
    simp only [Option.bind_some, Sum.elim_inr, tourlaw1_BitsWrites_j1]
    have hpl : (pack bs).length ≤ 140737488355328 := by rw [pack_length]; unfold nbytes; omega
    rw [wbytes_eq hpl, bytes_eq hb]
    simp only [Option.bind_some]
    rw [equal8 _ hpl]
    simp only [Option.bind_some]
  | succ d ih =>
    intro i bs hi hb
    have hlt : i < l.length := by omega
    have hk := hok l[i] (List.getElem_mem hlt)
    have w : IntKind.i64.wrap ((i : Int) + 1) = ((i + 1 : Nat) : Int) := by rw [i64ok (by omega) (by omega)]; omega
    have fin : ∀ (e : Int) (cs : List Bool), tourlaw1_BitsWrites_j3 (i : Int) (pack cs) (cs.length : Int) cs e e = some (.inl (pack cs, (cs.length : Int), cs, ((i + 1 : Nat) : Int))) := fun e cs => by
      unfold tourlaw1_BitsWrites_j3 bits_Writer_Len
      rw [cnd_not, cnd_beq, if_pos rfl]
      simp only [Option.bind_some]
      rw [cnd_not, cnd_beq, if_pos rfl, w]
    have hs : ∃ cs : List Bool, cs.length ≤ 524288 ∧ tourlaw1_BitsWrites_l2 l (pack bs) (bs.length : Int) bs (i : Int) = some (.inl (pack cs, (cs.length : Int), cs, ((i + 1 : Nat) : Int))) := by
      unfold tourlaw1_BitsWrites_l2
      rw [cnd_dec, if_pos (by omega), idx_get hlt]
      simp only [Option.bind_some]
      obtain ⟨n, hn, hn64⟩ := u64nat l[i].1
      rw [cnd_beq, cnd_beq, cnd_beq, hn]
      by_cases h0 : l[i].2.2 = 0
      · rw [if_pos h0, put_eq hn64 hb hk.2.1, bnd3_some, add_eq hn64 hb]
        refine ⟨(putE bs n l[i].2.1).2, putE_len hb, ?_⟩
        show bnd2 (some ((putE bs n l[i].2.1).1, (putE bs n l[i].2.1).2)) _ = _
        rw [bnd2_some]; exact fin _ _
      · rw [if_neg h0]
        by_cases h1 : l[i].2.2 = 1
        · rw [if_pos h1, nat_eq hn64 hb, bnd3_some, addnat_eq hn64 hb]
          refine ⟨(natE bs n).2, natE_len hb, ?_⟩
          show bnd2 (some ((natE bs n).1, (natE bs n).2)) _ = _
          rw [bnd2_some]; exact fin _ _
        · rw [if_neg h1]
          by_cases h2 : l[i].2.2 = 2
          · rw [if_pos h2, wint_eq hk.1 hb, bnd3_some, zigzag_eq hk.1]
            simp only [Option.bind_some]
            rw [addnat_eq (zig_lt hk.1) hb]
            refine ⟨(natE bs (zig l[i].1)).2, natE_len hb, ?_⟩
            show bnd2 (some ((natE bs (zig l[i].1)).1, (natE bs (zig l[i].1)).2)) _ = _
            rw [bnd2_some]; exact fin _ _
          · rw [if_neg h2]
            exact ⟨bs, hb, fin 0 bs⟩
    obtain ⟨cs, hcs, hs⟩ := hs
    rw [loop_inl (s := (pack bs, (bs.length : Int), bs, (i : Int))) hs]
    exact ih (i + 1) cs (by omega) hcs
theorem BitsWrites_true (l : List (Int × Int × Int)) (h0 : (okl 24 ok_arr3_Int) l) : tourlaw1_BitsWrites l = some true := by
  unfold tourlaw1_BitsWrites
  rw [bbegun_eq]
  simp only [Option.bind_some, cnd_not, cnd_true]
  exact writes_loop l (by have := h0.1; omega) h0.2 l.length 0 [] (by omega) (by simp)
end Go.Proofs.Ytfihfbkjomploaa.X
