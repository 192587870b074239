/- The plain law of the limits of commands. No condition. -/
import Derived.Test.YthcbepikeinglaaPuWorldM
import Derived.Test.YthcbepikeinglaaPuJoinsM
namespace Go.Proofs.Ythcbepikeinglaa.M
open Go Go.RowKit Go.Proofs.Ythcbepikeinglaa.Sx
set_option linter.unusedVariables false
set_option linter.unusedSimpArgs false
def kill : api_Cmd := api_Cmd.mk 2 (api_Ent.mk 0 0) 0 []
def none0 : api_Cmd := api_Cmd.mk 0 (api_Ent.mk 0 0) 0 []
def ones : List api_Cmd := List.replicate 8192 kill
theorem ones_loop : loop (σ := (List api_Cmd) × Int) (ρ := (List api_Cmd)) (fun s_ => tourlaw3_CmdLimits_l6 (List.replicate 8192 none0) s_.1 s_.2) (List.replicate 8192 none0, 0) = some ones := by
  have h := loop_to (σ := (List api_Cmd) × Int) (ρ := (List api_Cmd)) (step := fun s_ => tourlaw3_CmdLimits_l6 (List.replicate 8192 none0) s_.1 s_.2) (fun i => (List.replicate i kill ++ List.replicate (8192 - i) none0, (i : Int))) 8192 (r := ones) (fun i hi => by
    show tourlaw3_CmdLimits_l6 (List.replicate 8192 none0) (List.replicate i kill ++ List.replicate (8192 - i) none0) (i : Int) = _
    have hlen : (List.replicate i kill ++ List.replicate (8192 - i) none0).length = 8192 := by rw [List.length_append, List.length_replicate, List.length_replicate]; omega
    have hat : (List.replicate i kill ++ List.replicate (8192 - i) none0)[i]'(by omega) = none0 := by
      rw [List.getElem_append_right (by rw [List.length_replicate]; omega), List.getElem_replicate]
    unfold tourlaw3_CmdLimits_l6
    rw [cnd_dec, if_pos (by rw [List.length_replicate]; omega), idx_get (by omega), hat]
    simp only [Option.bind_some]
    rw [upd_ok (by omega)]
    simp only [Option.bind_some]
    rw [i64ok (by omega) (by omega), show 8192 - i = (8192 - (i + 1)) + 1 by omega, List.replicate_succ, List.set_append, if_neg (by rw [List.length_replicate]; omega), show i - (List.replicate i kill).length = 0 by rw [List.length_replicate]; omega, List.set_cons_zero, List.replicate_succ' (n := i), List.append_assoc]
    rfl) (by
    show tourlaw3_CmdLimits_l6 (List.replicate 8192 none0) (List.replicate 8192 kill ++ List.replicate (8192 - 8192) none0) ((8192 : Nat) : Int) = _
    unfold tourlaw3_CmdLimits_l6
    rw [cnd_dec, if_neg (by rw [List.length_replicate]; omega), Nat.sub_self, List.replicate_zero, List.append_nil]
    rfl)
  rw [List.replicate_zero, List.nil_append, Nat.sub_zero] at h
  exact h
theorem many_loop (m : Nat) (hm : m ≤ 18) : loop (σ := (List (List api_Cmd)) × Int) (ρ := (List (List api_Cmd))) (fun s_ => tourlaw3_CmdLimits_l5 (m : Int) ones s_.1 s_.2) (([] : List (List api_Cmd)), 0) = some (List.replicate m ones) := by
  have h := loop_to (σ := (List (List api_Cmd)) × Int) (ρ := (List (List api_Cmd))) (step := fun s_ => tourlaw3_CmdLimits_l5 (m : Int) ones s_.1 s_.2) (fun i => (List.replicate i ones, (i : Int))) m (r := List.replicate m ones) (fun i hi => by
    show tourlaw3_CmdLimits_l5 (m : Int) ones (List.replicate i ones) (i : Int) = _
    unfold tourlaw3_CmdLimits_l5
    rw [cnd_dec, if_pos (by omega), app_ok (by rw [List.length_replicate]; simp only [List.length_cons, List.length_nil]; omega)]
    simp only [Option.bind_some]
    rw [i64ok (by omega) (by omega), ← List.replicate_succ' (n := i)]; rfl) (by
    show tourlaw3_CmdLimits_l5 (m : Int) ones (List.replicate m ones) (m : Int) = _
    unfold tourlaw3_CmdLimits_l5
    rw [cnd_dec, if_neg (by omega)])
  exact h
theorem tot_rep (m : Nat) : tot (List.replicate m ones) = m * 8192 := by
  induction m with
  | zero => rfl
  | succ m ih => rw [List.replicate_succ, tot_cons, ih, show ones.length = 8192 from List.length_replicate ..]; omega
theorem small_rep {m : Nat} (hm : m ≤ 18) : Small (List.replicate m ones) := by
  refine ⟨by rw [List.length_replicate]; omega, by rw [tot_rep]; omega, fun x hx c hc => ?_⟩
  obtain rfl := List.eq_of_mem_replicate hx
  obtain rfl := List.eq_of_mem_replicate hc
  exact ⟨by simp [kill], by simp [kill]⟩
theorem CmdLimits_true (n : Int) (h0 : (okk .i64) n) : tourlaw3_CmdLimits n = some true := by
  unfold tourlaw3_CmdLimits
  rw [mk_ok (by omega) (by decide), show (8192 : Int).toNat = 8192 from rfl]
  simp only [Option.bind_some]
  rw [show (api_Cmd.mk 0 (api_Ent.mk 0 0) 0 []) = none0 from rfl, ones_loop]
  simp only [Option.bind_some]
  unfold tourlaw3_CmdLimits_j1
  obtain ⟨m, hm, hm0, hm1⟩ : ∃ m : Nat, IntKind.i64.wrap (15 + Int.tmod (IntKind.i64.wrap (Int.tmod n 4 + 4)) 4) = (m : Int) ∧ 15 ≤ m ∧ m ≤ 18 := by
    simp only [okk] at h0
    have h1 : -3 ≤ Int.tmod n 4 ∧ Int.tmod n 4 ≤ 3 := by
      rcases Int.le_total 0 n with h | h
      · have := Int.tmod_nonneg 4 h; have := Int.tmod_lt_of_pos n (show (0 : Int) < 4 by omega); omega
      · have e : Int.tmod n 4 = - Int.tmod (-n) 4 := by rw [Int.neg_tmod]; omega
        have := Int.tmod_nonneg 4 (show 0 ≤ -n by omega); have := Int.tmod_lt_of_pos (-n) (show (0 : Int) < 4 by omega); omega
    generalize Int.tmod n 4 = a at h1
    rw [i64ok (x := a + 4) (by omega) (by omega)]
    have h2 := Int.tmod_nonneg 4 (show 0 ≤ a + 4 by omega)
    have h3 := Int.tmod_lt_of_pos (a + 4) (show (0 : Int) < 4 by omega)
    generalize Int.tmod (a + 4) 4 = b at h2 h3
    rw [i64ok (by omega) (by omega)]
    exact ⟨(15 + b).toNat, by omega, by omega, by omega⟩
  rw [hm]
  simp only [Option.bind_some]
  rw [many_loop m hm1]
  simp only [Option.bind_some]
  unfold tourlaw3_CmdLimits_j2
  rw [join_eq (small_rep hm1), tot_rep, List.length_replicate]
  simp only [bnd2, Option.bind_some, cnd_dec]
  by_cases h16 : 16 < m
  · rw [if_pos (by omega), if_pos (by omega)]
    simp only [cnd_beq, if_true]
    rw [pair_eq, concat_eq (small_rep hm1)]
    simp only [bnd3, Option.bind_some, List.length_nil]
    rw [if_pos (by rfl)]
    unfold cmd_Check
    rw [pair_check]
    simp only [Option.bind_some, cnd_not, cnd_beq, if_true, cnd_dec]
    rw [tot_flatten, tot_rep, if_pos (by omega)]
    rfl
  · rw [if_neg (by omega), if_neg (by omega)]
    simp only [cnd_beq, if_true]
    unfold tourlaw3_CmdLimits_j4
    rw [tot_flatten, tot_rep]
    have e : IntKind.i64.wrap ((m : Int) * 8192) = ((m * 8192 : Nat) : Int) := by rw [i64ok (by omega) (by omega)]; omega
    simp [e]
end Go.Proofs.Ythcbepikeinglaa.M
