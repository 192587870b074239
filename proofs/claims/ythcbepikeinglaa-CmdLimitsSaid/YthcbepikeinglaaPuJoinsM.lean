/- The plain law of joined lists of commands. No condition. -/
import Derived.Test.YthcbepikeinglaaFnM
import Derived.Test.YthcbepikeinglaaPu
namespace Go.Proofs.Ythcbepikeinglaa.M
open Go Go.RowKit Go.Proofs.Ythcbepikeinglaa.Sx Go.Proofs.Ythcbepikeinglaa.Rnd Go.Proofs.Ythcbepikeinglaa.Nats Go.Proofs.Ythcbepikeinglaa.Trig Go.Proofs.Ythcbepikeinglaa.Bits
set_option linter.unusedVariables false
set_option linter.unusedSimpArgs false
structure SmallK (k : api_Comp) : Prop where
  vals : k.Vals.length ≤ 1048576
structure SmallC (c : api_Cmd) : Prop where
  comps : c.Comps.length ≤ 1048576
  each : ∀ k ∈ c.Comps, SmallK k
theorem clone_eq {l : List Int} (h : l.length ≤ 1048576) : slices_Clone_int_int l = some l := by
  unfold slices_Clone_int_int
  rw [app_ok (by simp; omega)]; rfl
theorem copy_loop {l : List api_Comp} (h : l.length ≤ 1048576) (hk : ∀ k ∈ l, SmallK k) : ∀ (d i : Nat), i + d = l.length →
    loop (σ := (List api_Comp) × Int) (ρ := (List api_Comp)) (fun s_ => world_CopyComps_l2 l s_.1 s_.2) (l.take i ++ List.replicate (l.length - i) (api_Comp.mk 0 []), (i : Int)) = some l := by
  intro d
  induction d with
  | zero =>
    intro i hi
    refine loop_inr (s := (l.take i ++ List.replicate (l.length - i) (api_Comp.mk 0 []), (i : Int))) ?_
    show world_CopyComps_l2 l (l.take i ++ List.replicate (l.length - i) (api_Comp.mk 0 [])) (i : Int) = _
    unfold world_CopyComps_l2
    rw [cnd_dec, if_neg (by omega), show l.length - i = 0 by omega, List.take_of_length_le (by omega)]
    simp
  | succ d ih =>
    intro i hi
    have hil : i < l.length := by omega
    have hlen : (l.take i ++ List.replicate (l.length - i) (api_Comp.mk 0 [])).length = l.length := by simp; omega
    have hset : (l.take i ++ List.replicate (l.length - i) (api_Comp.mk 0 [])).set i l[i] = l.take (i + 1) ++ List.replicate (l.length - (i + 1)) (api_Comp.mk 0 []) := by
      rw [show l.length - i = (l.length - (i + 1)) + 1 by omega, List.replicate_succ, List.set_append, if_neg (by simp; omega), show i - (l.take i).length = 0 by simp; omega, List.set_cons_zero, List.take_succ_eq_append_getElem hil, List.append_assoc]
      rfl
    have hs : world_CopyComps_l2 l (l.take i ++ List.replicate (l.length - i) (api_Comp.mk 0 [])) (i : Int) = some (.inl (l.take (i + 1) ++ List.replicate (l.length - (i + 1)) (api_Comp.mk 0 []), ((i + 1 : Nat) : Int))) := by
      unfold world_CopyComps_l2
      rw [cnd_dec, if_pos (by omega), idx_get hil]
      simp only [Option.bind_some]
      rw [clone_eq (hk l[i] (List.getElem_mem hil)).vals]
      simp only [Option.bind_some]
      rw [idx_get (by omega)]
      simp only [Option.bind_some]
      rw [upd_ok (by omega)]
      simp only [Option.bind_some]
      rw [hset, i64ok (by omega) (by omega)]
      rfl
    rw [loop_inl (s := (l.take i ++ List.replicate (l.length - i) (api_Comp.mk 0 []), (i : Int))) hs]
    exact ih (i + 1) (by omega)
theorem copycomps_eq {l : List api_Comp} (h : l.length ≤ 1048576) (hk : ∀ k ∈ l, SmallK k) : world_CopyComps l = some l := by
  unfold world_CopyComps
  rw [mk_ok (by omega) (by omega), Int.toNat_natCast]
  simp only [Option.bind_some]
  have := copy_loop h hk l.length 0 (by omega)
  rw [List.take_zero, List.nil_append, Nat.sub_zero] at this
  exact congrArg (fun o => o.bind fun e_ => world_CopyComps_j1 e_) this
/-! ### Join -/
theorem join_inner {x : List api_Cmd} (hx : x.length ≤ 1048576) (hc : ∀ c ∈ x, SmallC c) (out : List api_Cmd) (ho : out.length + x.length ≤ 1048576) : ∀ (d i : Nat), i + d = x.length →
    loop (σ := (List api_Cmd) × Int) (ρ := (List api_Cmd)) (fun s_ => cmd_Join_l5 x s_.1 s_.2) (out ++ x.take i, (i : Int)) = some (out ++ x) := by
  intro d
  induction d with
  | zero =>
    intro i hi
    refine loop_inr (s := (out ++ x.take i, (i : Int))) ?_
    show cmd_Join_l5 x (out ++ x.take i) (i : Int) = _
    unfold cmd_Join_l5
    rw [cnd_dec, if_neg (by omega), List.take_of_length_le (by omega)]
  | succ d ih =>
    intro i hi
    have hil : i < x.length := by omega
    have hsm := hc x[i] (List.getElem_mem hil)
    have hs : cmd_Join_l5 x (out ++ x.take i) (i : Int) = some (.inl (out ++ x.take (i + 1), ((i + 1 : Nat) : Int))) := by
      unfold cmd_Join_l5 cmd_Copy
      rw [cnd_dec, if_pos (by omega), idx_get hil]
      simp only [Option.bind_some]
      rw [copycomps_eq hsm.comps hsm.each]
      simp only [Option.bind_some]
      rw [app_ok (by simp; omega)]
      simp only [Option.bind_some]
      rw [i64ok (by omega) (by omega), List.take_succ_eq_append_getElem hil, List.append_assoc]
      rfl
    rw [loop_inl (s := (out ++ x.take i, (i : Int))) hs]
    exact ih (i + 1) (by omega)
def tot (l : List (List api_Cmd)) : Nat := (l.map List.length).sum
theorem tot_cons (x : List api_Cmd) (l : List (List api_Cmd)) : tot (x :: l) = x.length + tot l := by simp [tot]
structure Small (l : List (List api_Cmd)) : Prop where
  len : l.length ≤ 1048576
  all : tot l ≤ 1048576
  each : ∀ x ∈ l, ∀ c ∈ x, SmallC c
theorem tot_drop {l : List (List api_Cmd)} {i : Nat} (h : i < l.length) : tot (l.drop i) = l[i].length + tot (l.drop (i + 1)) := by
  rw [List.drop_eq_getElem_cons h, tot_cons]
theorem tot_le {l : List (List api_Cmd)} : ∀ i, tot (l.drop i) ≤ tot l := by
  intro i
  induction i generalizing l with
  | zero => exact Nat.le_refl _
  | succ i ih =>
    cases l with
    | nil => simp [tot]
    | cons x l => rw [List.drop_succ_cons, tot_cons]; have := ih (l := l); omega
theorem tot_flatten (l : List (List api_Cmd)) : l.flatten.length = tot l := by simp [tot, List.length_flatten]
theorem flat_take {l : List (List api_Cmd)} {i : Nat} (h : i < l.length) : (l.take (i + 1)).flatten = (l.take i).flatten ++ l[i] := by
  rw [List.take_succ_eq_append_getElem h, List.flatten_append]; simp
theorem flat_len {l : List (List api_Cmd)} (i : Nat) : (l.take i).flatten.length + tot (l.drop i) = tot l := by
  rw [← tot_flatten, ← List.length_append, ← List.flatten_append, List.take_append_drop, tot_flatten]
theorem join_outer {l : List (List api_Cmd)} (h : Small l) : ∀ (d i : Nat), i + d = l.length →
    loop (σ := (List api_Cmd) × Int) (ρ := (List api_Cmd)) (fun s_ => cmd_Join_l3 l s_.1 s_.2) ((l.take i).flatten, (i : Int)) = some l.flatten := by
  have hl := h.len
  have ha := h.all
  intro d
  induction d with
  | zero =>
    intro i hi
    refine loop_inr (s := ((l.take i).flatten, (i : Int))) ?_
    show cmd_Join_l3 l (l.take i).flatten (i : Int) = _
    unfold cmd_Join_l3
    rw [cnd_dec, if_neg (by omega), List.take_of_length_le (by omega)]
  | succ d ih =>
    intro i hi
    have hil : i < l.length := by omega
    have hfl := flat_len (l := l) i
    have htd := tot_drop hil
    have hs : cmd_Join_l3 l (l.take i).flatten (i : Int) = some (.inl ((l.take (i + 1)).flatten, ((i + 1 : Nat) : Int))) := by
      unfold cmd_Join_l3
      rw [cnd_dec, if_pos (by omega), idx_get hil]
      simp only [Option.bind_some]
      have := join_inner (x := l[i]) (by omega) (h.each l[i] (List.getElem_mem hil)) (l.take i).flatten (by omega) l[i].length 0 (by omega)
      rw [List.take_zero, List.append_nil] at this
      refine Eq.trans (congrArg (fun o => o.bind fun e_ => cmd_Join_j4 (i : Int) e_) this) ?_
      simp only [Option.bind_some, cmd_Join_j4]
      rw [i64ok (by omega) (by omega), flat_take hil]
      rfl
    rw [loop_inl (s := ((l.take i).flatten, (i : Int))) hs]
    exact ih (i + 1) (by omega)
theorem join_sum {l : List (List api_Cmd)} (h : Small l) : ∀ (d i n : Nat), i + d = l.length → n + tot (l.drop i) = tot l → n ≤ 131072 →
    loop (σ := Int × Int) (ρ := (((List api_Cmd) × Int) ⊕ Unit)) (fun s_ => cmd_Join_l6 l s_.1 s_.2) ((n : Int), (i : Int)) = some (if 131072 < tot l then .inl ([], 2) else .inr ()) := by
  have hl := h.len
  have ha := h.all
  intro d
  induction d with
  | zero =>
    intro i n hi hn hm
    rw [List.drop_of_length_le (by omega)] at hn
    have h0 : tot [] = 0 := rfl
    rw [if_neg (by omega)]
    refine loop_inr (s := ((n : Int), (i : Int))) ?_
    show cmd_Join_l6 l (n : Int) (i : Int) = _
    unfold cmd_Join_l6
    rw [cnd_dec, if_neg (by omega)]
  | succ d ih =>
    intro i n hi hn hm
    have hil : i < l.length := by omega
    have htd := tot_drop hil
    have hs : cmd_Join_l6 l (n : Int) (i : Int) = if 131072 < n + l[i].length then some (.inr (.inl ([], 2))) else some (.inl (((n + l[i].length : Nat) : Int), ((i + 1 : Nat) : Int))) := by
      unfold cmd_Join_l6
      rw [cnd_dec, if_pos (by omega), idx_get hil]
      simp only [Option.bind_some]
      rw [i64ok (x := (n : Int) + (l[i].length : Int)) (by omega) (by omega), cnd_dec, i64ok (x := (i : Int) + 1) (by omega) (by omega)]
      by_cases hb : 131072 < n + l[i].length
      · rw [if_pos (by omega), if_pos hb]
      · rw [if_neg (by omega), if_neg hb]; rfl
    by_cases hb : 131072 < n + l[i].length
    · rw [if_pos hb] at hs
      rw [if_pos (by omega)]
      exact loop_inr (s := ((n : Int), (i : Int))) hs
    · rw [if_neg hb] at hs
      rw [loop_inl (s := ((n : Int), (i : Int))) hs]
      exact ih (i + 1) (n + l[i].length) (by omega) (by omega) (by omega)
theorem join_eq {l : List (List api_Cmd)} (h : Small l) : cmd_Join l = some (if 131072 < tot l then ([], 2) else (l.flatten, 0)) := by
  unfold cmd_Join
  have := join_sum h l.length 0 0 (by omega) (by simp) (by omega)
  refine Eq.trans (congrArg (fun o => o.bind (Sum.elim (fun e_ : List api_Cmd × Int => some (e_.1, e_.2)) (fun e_ : Unit => cmd_Join_j1 l))) this) ?_
  by_cases hb : 131072 < tot l
  · rw [if_pos hb, if_pos hb]; rfl
  · rw [if_neg hb, if_neg hb]
    simp only [Option.bind_some, Sum.elim_inr]
    unfold cmd_Join_j1
    have := join_outer h l.length 0 (by omega)
    rw [List.take_zero, List.flatten_nil] at this
    exact congrArg (fun o => o.bind fun e_ => cmd_Join_j2 e_) this
/-! ### The reference -/
theorem cc_sum {l : List (List api_Cmd)} (h : Small l) : ∀ (d i n : Nat), i + d = l.length → n + tot (l.drop i) = tot l →
    loop (σ := Int × Int) (ρ := Int) (fun s_ => slices_Concat_api_Cmd_api_Cmd_l4 l s_.1 s_.2) ((n : Int), (i : Int)) = some (tot l : Int) := by
  have hl := h.len
  have ha := h.all
  intro d
  induction d with
  | zero =>
    intro i n hi hn
    rw [List.drop_of_length_le (by omega)] at hn
    have h0 : tot [] = 0 := rfl
    refine loop_inr (s := ((n : Int), (i : Int))) ?_
    show slices_Concat_api_Cmd_api_Cmd_l4 l (n : Int) (i : Int) = _
    unfold slices_Concat_api_Cmd_api_Cmd_l4
    rw [cnd_dec, if_neg (by omega)]
    congr 2; omega
  | succ d ih =>
    intro i n hi hn
    have hil : i < l.length := by omega
    have htd := tot_drop hil
    have hs : slices_Concat_api_Cmd_api_Cmd_l4 l (n : Int) (i : Int) = some (.inl (((n + l[i].length : Nat) : Int), ((i + 1 : Nat) : Int))) := by
      unfold slices_Concat_api_Cmd_api_Cmd_l4
      rw [cnd_dec, if_pos (by omega), idx_get hil]
      simp only [Option.bind_some]
      rw [i64ok (x := (n : Int) + (l[i].length : Int)) (by omega) (by omega), cnd_dec, if_neg (by omega), i64ok (x := (i : Int) + 1) (by omega) (by omega)]
      rfl
    rw [loop_inl (s := ((n : Int), (i : Int))) hs]
    exact ih (i + 1) (n + l[i].length) (by omega) (by omega)
theorem cc_loop {l : List (List api_Cmd)} (h : Small l) : ∀ (d i : Nat), i + d = l.length →
    loop (σ := (List api_Cmd) × Int) (ρ := (List api_Cmd)) (fun s_ => slices_Concat_api_Cmd_api_Cmd_l3 l s_.1 s_.2) ((l.take i).flatten, (i : Int)) = some l.flatten := by
  have hl := h.len
  have ha := h.all
  intro d
  induction d with
  | zero =>
    intro i hi
    refine loop_inr (s := ((l.take i).flatten, (i : Int))) ?_
    show slices_Concat_api_Cmd_api_Cmd_l3 l (l.take i).flatten (i : Int) = _
    unfold slices_Concat_api_Cmd_api_Cmd_l3
    rw [cnd_dec, if_neg (by omega), List.take_of_length_le (by omega)]
  | succ d ih =>
    intro i hi
    have hil : i < l.length := by omega
    have hfl := flat_len (l := l) i
    have htd := tot_drop hil
    have hs : slices_Concat_api_Cmd_api_Cmd_l3 l (l.take i).flatten (i : Int) = some (.inl ((l.take (i + 1)).flatten, ((i + 1 : Nat) : Int))) := by
      unfold slices_Concat_api_Cmd_api_Cmd_l3
      rw [cnd_dec, if_pos (by omega), idx_get hil]
      simp only [Option.bind_some]
      rw [app_ok (by omega)]
      simp only [Option.bind_some]
      rw [i64ok (by omega) (by omega), flat_take hil]
      rfl
    rw [loop_inl (s := ((l.take i).flatten, (i : Int))) hs]
    exact ih (i + 1) (by omega)
theorem concat_eq {l : List (List api_Cmd)} (h : Small l) : slices_Concat_api_Cmd_api_Cmd l = some l.flatten := by
  have ha := h.all
  unfold slices_Concat_api_Cmd_api_Cmd
  refine Eq.trans (congrArg (fun o => o.bind fun e_ => slices_Concat_api_Cmd_api_Cmd_j1 l e_) (cc_sum h l.length 0 0 (by omega) (by simp))) ?_
  simp only [Option.bind_some]
  unfold slices_Concat_api_Cmd_api_Cmd_j1 slices_Grow_api_Cmd_api_Cmd grow
  rw [if_pos ⟨by omega, by omega⟩]
  simp only [Option.bind_some]
  have := cc_loop h l.length 0 (by omega)
  rw [List.take_zero, List.flatten_nil] at this
  exact congrArg (fun o => o.bind fun e_ => slices_Concat_api_Cmd_api_Cmd_j2 e_) this
theorem bkl_one {α : Type} (b : α → Nat) (l : List α) : 1 ≤ bkl b l := by unfold bkl; omega
end Go.Proofs.Ythcbepikeinglaa.M
