/- The Go functions come to what the plain functions tell. No condition. -/
import Derived.Test.YtbfndcookgijfaaGreatDoorProg
import Derived.Test.YtbfndcookgijfaaGreatDoorFnC
import Derived.Test.YtbfndcookgijfaaGreatDoorExSq
import Derived.Test.YtbfndcookgijfaaGreatDoorExOwnM
import Derived.Test.YtbfndcookgijfaaGreatDoorExDel
namespace Go.Proofs.YtbfndcookgijfaaGreatDoor.C
open Go Go.RowKit Go.Proofs.YtbfndcookgijfaaGreatDoor.Sx
set_option linter.unusedVariables false
set_option maxHeartbeats 4000000
set_option maxRecDepth 100000
variable {w0 w : World} {cs : List Chunk} {F : Nat → Prop} {W : World}
set_option maxHeartbeats 4000000 in
set_option maxRecDepth 100000 in
theorem slices_Delete_api_Comp_api_Comp_ok (w0 w : World) (cs : List Chunk) (F : Nat → Prop) (W : World) (A_s : Option Addr) (c_s : Nat) (s_ : List api_Comp) (y_s : List Value) (i_ : Int) (j_ : Int) (hM0 : Mem w0 (orow A_s s_.length c_s 42 2 y_s :: Fz F W :: cs) w) (h_s : RepL R_api_Comp F W s_ y_s) (l9001 : List api_Comp) (hp : slices_Delete_api_Comp_api_Comp s_ i_ j_ = some l9001) : Calls Tryz.prog 59 #[.slice A_s s_.length c_s, vI i_, vI j_] w fun e w' => ∃ (y9001 : List Value), ((RepL R_api_Comp F W l9001 y9001)) ∧ e = .returned (.slice A_s l9001.length c_s) ∧ Mem w0 (orow A_s l9001.length c_s 42 2 y9001 :: Fz F W :: cs) w' := by
  obtain ⟨h0, h1, h2, rfl⟩ := del_some hp
  obtain ⟨a, rfl⟩ := Int.eq_ofNat_of_zero_le h0
  obtain ⟨b, rfl⟩ := Int.eq_ofNat_of_zero_le (Int.le_trans h0 h1)
  have hab : a ≤ b := by omega
  have hb : b ≤ s_.length := by omega
  have hcap := hM0.rowCap 0 rfl
  have hcm : c_s ≤ 9223372036854775807 := by have := hcap.2; simp only [maxLen] at this; omega
  have hcl : s_.length ≤ c_s := hcap.1
  clear h0 h1 h2 hcap hp
  by_cases heq : a = b
  · subst heq
    have hl : s_.take a ++ s_.drop a = s_ := List.take_append_drop a s_
    have hc : Calls Tryz.prog 59 #[.slice A_s s_.length c_s, .int .i64 a, .int .i64 a] w fun e w' => e = .returned (.slice A_s s_.length c_s) ∧ w' = w := by
      clear hM0 h_s
      generalize s_.length = n at hb hcl ⊢
      go_enter Tryz.func59, Tryz.ntmps59
      go_wp2
      all_goals (go_ret; first | exact ⟨rfl, rfl⟩ | simp)
    refine hc.mono ?_
    rintro e w' ⟨rfl, rfl⟩
    simp only [Int.toNat_natCast, hl]
    first | exact ⟨y_s, h_s, rfl, hM0⟩ | exact ⟨y_s, h_s, trivial, hM0⟩
  · obtain ⟨g, rfl, hc0⟩ := hM0.orowSome 0 rfl (by omega)
    have mixed : Tryz.prog.follows .mixedOrders = true := by kernel_rfl
    have hRz : (R_api_Comp).z = 2 := by decide
    obtain ⟨i0, hi0, hz0, hz1, hz2⟩ := info_parts (P := Tryz.prog) (e := 42) (z := .agg #[.int .i64 0, .slice none 0 0]) (size := 2) (bytes := 32) (by kernel_rfl)
    have hv : ∀ u : World, (zeroValue 42).run Tryz.prog u = .ok (.agg #[.int .i64 0, .slice none 0 0]) u := fun u => by simp [zeroValue, typeInfo, hi0, hz0]
    have hM1 := hM0.drew
    have hlt : a < b := by omega
    have hzl : (Builtin.zeroCells (.agg #[.int .i64 0, .slice none 0 0] : Value).cells (b - a)).toList.length = (b - a) * 2 := zero_len _ _
    obtain ⟨⟨f1, f2⟩, f3, f4, hM2⟩ := Mem.moved (a := a) (b := b) (l := s_) hM1 h_s hlt hb hzl
    have hone : ∀ u ∈ y_s.drop (b * 2), u.oneCell' = true := fun u hu => h_s.one u (List.mem_of_mem_drop hu)
    have hzone := zero_ones (z := .agg #[.int .i64 0, .slice none 0 0]) (by rfl) (b - a)
    have hlen : (s_.take a ++ s_.drop b).length = a + (s_.length - b) := by simp; omega
    have hrep := (h_s.take a).app (h_s.drop b)
    rw [hRz] at hrep
    obtain ⟨news, hnews⟩ : ∃ news, news = y_s.drop (b * 2) := ⟨_, rfl⟩
    obtain ⟨zs, hzs⟩ : ∃ zs, zs = (Builtin.zeroCells (.agg #[.int .i64 0, .slice none 0 0] : Value).cells (b - a)).toList := ⟨_, rfl⟩
    rw [← hnews] at f1 f2 f3 f4 hM2 hone
    rw [← hzs] at f4 hM2 hzone
    obtain ⟨A, hA, hsrc⟩ : ∃ A : Addr, (if c_s = b then some (⟨g, 0, none⟩ : Addr) else some ⟨g, b * 2, none⟩) = some A ∧ Hid (∀ t u, news[t]? = some u → w.drew.cell? (A.add t) = some u) := by
      by_cases h : c_s = b
      · refine ⟨⟨g, 0, none⟩, by simp [h], fun t u hu => ?_⟩
        have h0 : news.length = 0 := by rw [f3]; omega
        rw [List.length_eq_zero_iff.1 h0] at hu
        simp at hu
      · exact ⟨⟨g, b * 2, none⟩, by simp [h], fun t u hu => by rw [Addr.add_lit]; exact f1 t u hu⟩
    obtain ⟨n, hn⟩ : ∃ n, n = s_.length := ⟨_, rfl⟩
    rw [← hn] at hb hcl f3 f4 hM2 hlen ⊢
    have s1 : Hid (news.length = (n - b) * 2) := f3
    have s2 : Hid (∀ u ∈ news, u.oneCell' = true) := hone
    have s3 : Hid (∀ t, t < news.length → (w.drew.cell? ⟨g, 0 + a * 2 + t, none⟩).isSome = true ∧ w.drew.frozen? ⟨g, 0 + a * 2 + t, none⟩ = false) := fun t ht => by rw [Nat.zero_add]; exact f2 t ht
    obtain ⟨W1, hW1⟩ : ∃ W1, W1 = w.drew.setCells g (0 + a * 2) news := ⟨_, rfl⟩
    have hcl2 : ∀ ty, (Builtin.clear_ #[27] ty #[.slice (some ⟨g, (a + (n - b)) * 2, none⟩) (n - (a + (n - b))) (c_s - (a + (n - b)))]).run Tryz.prog W1 = .ok (.tuple #[]) (W1.setCells g ((a + (n - b)) * 2) zs) := fun ty =>
      run_clear_row W1 27 42 ty _ zs Tryz.underlying27 hv g _ _ _ (by omega) (by rw [hzs, show n - (a + (n - b)) = b - a by omega]) hzone (fun j hj => by rw [hW1, Nat.zero_add]; exact (f4 j hj).1) (fun j hj => by rw [hW1, Nat.zero_add]; exact (f4 j hj).2)
    have hM3 : Mem w0 (orow (some ⟨g, 0, none⟩) (s_.take a ++ s_.drop b).length c_s 42 2 (y_s.take (a * 2) ++ news) :: Fz F W :: cs) (W1.setCells g ((a + (n - b)) * 2) zs) := by rw [hW1, Nat.zero_add]; exact hM2
    have X : Aside (Mem w0 (orow (some ⟨g, 0, none⟩) (s_.take a ++ s_.drop b).length c_s 42 2 (y_s.take (a * 2) ++ news) :: Fz F W :: cs) (W1.setCells g ((a + (n - b)) * 2) zs)) := hM3
    have Y : Aside (RepL R_api_Comp F W (s_.take a ++ s_.drop b) (y_s.take (a * 2) ++ news)) := by rw [hnews]; exact hrep
    have Z : Aside ((s_.take a ++ s_.drop b).length = a + (n - b)) := hlen
    have hW : Hid (W1 = w.drew.setCells g (0 + a * 2) news) := hW1
    clear hW1 hM0 hM1 hM2 hM3 f1 f2 f3 f4 hone hzone hlen hrep hzl hv hnews hzs h_s hn
    have hac : a ≤ c_s := by omega
    have hbc : b ≤ c_s := by omega
    have hmain : Calls Tryz.prog 59 #[.slice (some ⟨g, 0, none⟩) n c_s, .int .i64 a, .int .i64 b] w fun e w' => e = .returned (.slice (some ⟨g, 0, none⟩) (a + (n - b)) c_s) ∧ w' = W1.setCells g ((a + (n - b)) * 2) zs := by
      clear X Y Z
      go_enter Tryz.func59, Tryz.ntmps59
      go_wp2_with fail
      go_region_law_o (refine step_append_room rfl (.tmp 22) (.tmp 25) 27 rfl 42 i0 2 Tryz.underlying27 hi0 hz1 g 0 a c_s (by simp [Act.eval, Act.put]) A (n - b) (c_s - b) news (by simp [Act.eval, Act.put]) s1.out hsrc.out s2.out (by omega) s3.out ?_; rw [← hW.out])
      go_wp2
      go_ret
      exact ⟨rfl, rfl⟩
    refine hmain.mono ?_
    rintro e w' ⟨rfl, rfl⟩
    simp only [Int.toNat_natCast]
    exact ⟨_, Y.out, by rw [Z.out], X.out⟩
end Go.Proofs.YtbfndcookgijfaaGreatDoor.C
