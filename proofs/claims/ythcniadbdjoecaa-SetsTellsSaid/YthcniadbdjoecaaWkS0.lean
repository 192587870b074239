/- The Go functions come to what the plain functions tell. No condition. -/
import Derived.Test.YthcniadbdjoecaaProg
import Derived.Test.YthcniadbdjoecaaFnS
import Derived.Test.YthcniadbdjoecaaExDel
namespace Go.Proofs.Ythcniadbdjoecaa.S
open Go Go.RowKit Go.Proofs.Ythcniadbdjoecaa.Sx
set_option linter.unusedVariables false
set_option maxHeartbeats 4000000
set_option maxRecDepth 100000
set_option maxHeartbeats 4000000 in
set_option maxRecDepth 100000 in
theorem slices_Grow_int_int_ok (w0 w : World) (cs : List Chunk) (F : Nat → Prop) (W : World) (n_ : Int) (hM0 : Mem w0 (Fz F W :: cs) w) (l9001 : List Int) (hp : slices_Grow_int_int n_ = some l9001) : Calls Try.prog 73 #[.slice none 0 0, vI n_] w fun e w' => ∃ (A9001 : Option Addr), ∃ (c9001 : Nat), ∃ (y9001 : List Value), ((RepL (Rep.int .i64) F W l9001 y9001)) ∧ e = .returned (.slice A9001 l9001.length c9001) ∧ Mem w0 (orow A9001 l9001.length c9001 3 1 y9001 :: Fz F W :: cs) w' := by
  obtain ⟨h0, h1, rfl⟩ := grow_some hp
  obtain ⟨n, rfl⟩ := Int.eq_ofNat_of_zero_le h0
  rw [Int.toNat_natCast] at h1
  obtain ⟨i0, hi0, hz0, hz1, hz2⟩ := info_parts (P := Try.prog) (e := 3) (z := .int .i64 0) (size := 1) (bytes := 8) (by kernel_rfl)
  rcases Nat.eq_zero_or_pos n with hn | hn
  · subst hn
    have hc : Calls Try.prog 73 #[.slice none 0 0, .int .i64 (0 : Nat)] w fun e w' => e = .returned (.slice none 0 0) ∧ w' = w := by
      clear hM0 hp h0 h1
      go_enter Try.func73, Try.ntmps73
      go_wp2
      all_goals (go_ret; first | exact ⟨rfl, rfl⟩ | simp)
    refine hc.mono ?_
    rintro e w' ⟨rfl, rfl⟩
    exact ⟨none, 0, [], RepL.nil, rfl, hM0.onil none 3 1⟩
  · have hgc := grownCap_ge w n 0 3
    have hgm : grownCap w n 0 3 ≤ maxLen := grownCap_le_maxLen w n 0 3 (by simp only [maxLen]; omega)
    have hrun : ∀ ty, (Builtin.append_ #[23, 3] ty #[.slice none 0 0, .int .i64 (n : Int)]).run Try.prog w = .ok (.slice (some ⟨w.heap.size, 0, none⟩) n (grownCap w n 0 3)) (w.drew.alloc (.cells (Builtin.zeroCells (.int .i64 0 : Value).cells n ++ Builtin.zeroCells (.int .i64 0 : Value).cells (grownCap w n 0 3 - n)) 3)) := fun ty =>
      Lib.run_append_nil_zeros w 23 3 ty 3 i0 _ .i64 .i64 Try.underlying23 Try.underlying3 hi0 hz0 n hn (by omega) (by omega) (by rw [hz2]; omega)
    obtain ⟨c, hcap⟩ : ∃ c, c = grownCap w n 0 3 := ⟨_, rfl⟩
    rw [← hcap] at hgc hgm hrun
    obtain ⟨vs, hvs⟩ : ∃ vs, vs = (Builtin.zeroCells (.int .i64 0 : Value).cells n ++ Builtin.zeroCells (.int .i64 0 : Value).cells (c - n)) := ⟨_, rfl⟩
    have hvl : vs.toList.length = c * 1 := by
      rw [hvs]; simp [Builtin.zeroCells]
      rw [← Nat.add_mul]; first | omega | (congr 1; omega) | (show (n + (c - n)) * 1 = c; omega)
    rw [← hvs] at hrun
    have hM1 := (hM0.drew.onew vs.toList 3 c 1 hvl hgm).otake 0 rfl (m := 0) (Nat.zero_le _)
    have hc : Calls Try.prog 73 #[.slice none 0 0, .int .i64 (n : Int)] w fun e w' => e = .returned (.slice (some ⟨w.heap.size, 0, none⟩) 0 c) ∧ w' = w.drew.alloc (.cells vs 3) := by
      have hn63 : n < 9223372036854775807 := by omega
      have hc63 : c ≤ 9223372036854775807 := by simp only [maxLen] at hgm; omega
      clear hM0 hp h0 h1 hM1 hvl hvs hcap hgm
      go_enter Try.func73, Try.ntmps73
      go_wp2_with (at_builtin; refine Lib.wpList_append_run _ rfl _ _ _ _ rfl _ _ rfl rfl _ _ (hrun _) ?_)
      all_goals (go_ret; first | exact ⟨rfl, rfl⟩ | simp)
    refine hc.mono ?_
    rintro e w' ⟨rfl, rfl⟩
    refine ⟨some ⟨w.heap.size, 0, none⟩, c, [], RepL.nil, rfl, ?_⟩
    have hM2 : Mem w0 (orow (some ⟨w.heap.size, 0, none⟩) 0 c 3 1 (vs.toList.take (0 * 1)) :: Fz F W :: cs) (w.drew.alloc (.cells vs.toList.toArray 3)) := hM1
    rw [Nat.zero_mul, List.take_zero, Array.toArray_toList] at hM2
    exact hM2
end Go.Proofs.Ythcniadbdjoecaa.S
