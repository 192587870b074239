/- The Go functions come to what the plain functions tell. No condition. -/
import Derived.Test.YtbfndcookgijfaaGreatDoorProg
import Derived.Test.YtbfndcookgijfaaGreatDoorFnC
import Derived.Test.YtbfndcookgijfaaGreatDoorExSq
import Derived.Test.YtbfndcookgijfaaGreatDoorExOwnM
import Derived.Test.YtbfndcookgijfaaGreatDoorExIns
namespace Go.Proofs.YtbfndcookgijfaaGreatDoor.C
open Go Go.RowKit Go.Proofs.YtbfndcookgijfaaGreatDoor.Sx
set_option linter.unusedVariables false
set_option maxHeartbeats 4000000
set_option maxRecDepth 100000
variable {w0 w : World} {cs : List Chunk} {F : Nat → Prop} {W : World}
set_option maxHeartbeats 4000000 in
set_option maxRecDepth 100000 in
theorem slices_Insert_api_Comp_api_Comp_ok (w0 w : World) (cs : List Chunk) (F : Nat → Prop) (W : World) (A_s : Option Addr) (c_s : Nat) (s_ : List api_Comp) (y_s : List Value) (i_ : Int) (A_v : Option Addr) (c_v : Nat) (v_ : List api_Comp) (y_v : List Value) (hM0 : Mem w0 (orow A_s s_.length c_s 42 2 y_s :: orow A_v v_.length c_v 42 2 y_v :: Fz F W :: cs) w) (h_s : RepL R_api_Comp F W s_ y_s) (h_v : RepL R_api_Comp F W v_ y_v) (l9001 : List api_Comp) (hp : slices_Insert_api_Comp_api_Comp s_ i_ v_ = some l9001) : Calls Tryz.prog 58 #[.slice A_s s_.length c_s, vI i_, .slice A_v v_.length c_v] w fun e w' => ∃ (A9001 : Option Addr) (c9001 : Nat) (y9001 : List Value), ((RepL R_api_Comp F W l9001 y9001)) ∧ e = .returned (.slice A9001 l9001.length c9001) ∧ Mem w0 (orow A9001 l9001.length c9001 42 2 y9001 :: Fz F W :: cs) w' := by
  obtain ⟨h0, h1, h2, h3, rfl⟩ := ins_some hp
  obtain ⟨i, rfl⟩ := Int.eq_ofNat_of_zero_le h0
  have hRz : (R_api_Comp).z = 2 := by decide
  have hrep := RepL.ins h_s h_v i
  rw [hRz] at hrep
  have hin : i ≤ s_.length := by omega
  have hlen : (s_.take i ++ v_ ++ s_.drop i).length = s_.length + v_.length := by simp; omega
  have hcap := hM0.rowCap 0 rfl
  have hcm : c_s ≤ 9223372036854775807 := by have := hcap.2; simp only [maxLen] at this; omega
  have hcl : s_.length ≤ c_s := hcap.1
  have hyl : y_s.length = s_.length * 2 := hM0.rowLen 0 rfl
  have hvl : y_v.length = v_.length * 2 := hM0.rowLen 1 rfl
  obtain ⟨gv, rfl, hcv⟩ := hM0.orowSome 1 rfl h2
  have hones : ∀ u ∈ y_s, u.oneCell' = true := h_s.one
  have honev : ∀ u ∈ y_v, u.oneCell' = true := h_v.one
  have mixed : Tryz.prog.follows .mixedOrders = true := by kernel_rfl
  obtain ⟨i0, hi0, hz0, hz1, hz2⟩ := info_parts (P := Tryz.prog) (e := 42) (z := .agg #[.int .i64 0, .slice none 0 0]) (size := 2) (bytes := 32) (by kernel_rfl)
  have hsz : (Tryz.prog.info? 42).map (·.size) = some 2 := by rw [hi0]; simp [hz1]
  simp only [Int.toNat_natCast]
  suffices hmain : ∃ A' c' w', Calls Tryz.prog 58 #[.slice A_s s_.length c_s, vI i, .slice (some ⟨gv, 0, none⟩) v_.length c_v] w (fun e w2 => e = .returned (.slice A' (s_.length + v_.length) c') ∧ w2 = w') ∧ Mem w0 (orow A' (s_.length + v_.length) c' 42 2 (y_s.take (i * 2) ++ y_v ++ y_s.drop (i * 2)) :: Fz F W :: cs) w' by
    obtain ⟨A', c', w', hc, hM⟩ := hmain
    refine hc.mono ?_
    rintro e w2 ⟨rfl, rfl⟩
    exact ⟨A', c', _, hrep, by rw [hlen], by rw [hlen]; exact hM⟩
  clear hrep hlen h_s h_v hp h0 hcap
  generalize s_.length = n at hM0 h1 h3 hin hcl hyl ⊢
  generalize v_.length = m at hM0 h2 h3 hvl ⊢
  have hz1' : ¬ ((m : Int) = 0) := by omega
  by_cases hend : i = n
  · subst hend
    obtain ⟨A', c', w', hr, hM⟩ := hM0.oappend (P := Tryz.prog) (ty := 27) 0 rfl Tryz.underlying27 hi0 hz0 hz1 hz2 rfl (by decide) (hM0.srcO 1 rfl) hvl honev h3 (by decide)
    refine ⟨A', c', w', ?_, ?_⟩
    · clear hM0 hM hones honev hyl hvl
      go_enter Tryz.func58, Tryz.ntmps58
      go_wp2_with (at_builtin; refine Lib.wpList_append_run _ rfl _ _ 27 27 rfl _ _ rfl rfl _ _ hr ?_)
      all_goals (go_ret; first | exact ⟨rfl, rfl⟩ | simp)
    · have hM : Mem w0 (orow A' (i + m) c' 42 2 (y_s ++ y_v) :: orow (some ⟨gv, 0, none⟩) m c_v 42 2 y_v :: Fz F W :: cs) w' := hM
      rw [List.take_of_length_le (by omega), List.drop_eq_nil_of_le (by omega), List.append_nil]
      exact hM.sub (.cons_cons _ (.cons _ (.refl _)))
  · have hlt : i < n := by omega
    have hz2' : ¬ ((i : Int) = (n : Int)) := by omega
    obtain ⟨g, rfl, hcs⟩ := hM0.orowSome 0 rfl (by omega)
    obtain ⟨B, hB⟩ : ∃ B, B = y_s.drop (i * 2) := ⟨_, rfl⟩
    have hBl : B.length = (n - i) * 2 := by rw [hB, List.length_drop, hyl, ← Nat.sub_mul]
    have honeB : ∀ u ∈ B, u.oneCell' = true := fun u hu => hones u (List.mem_of_mem_drop (hB ▸ hu))
    have hBc : ∀ {w' : World} {k : Nat} {xs : List Chunk}, Mem w0 xs w' → xs[k]? = some (orow (some ⟨g, 0, none⟩) n c_s 42 2 y_s) → ∀ j v, B[j]? = some v → w'.cell? ((⟨g, i * 2, none⟩ : Addr).add j) = some v := fun h hk j v hj => by
      rw [hB, List.getElem?_drop] at hj
      rw [Addr.add_lit]
      exact h.ocell _ hk hj
    have hVc : ∀ {w' : World} {k : Nat} {xs : List Chunk}, Mem w0 xs w' → xs[k]? = some (orow (some ⟨gv, 0, none⟩) m c_v 42 2 y_v) → ∀ j v, y_v[j]? = some v → w'.cell? ((⟨gv, 0, none⟩ : Addr).add j) = some v := fun h hk j v hj => by
      rw [Addr.add_lit, Nat.zero_add]
      exact h.ocell _ hk hj
    rw [← hB]
    have hw1 : IntKind.i64.wrap ((i : Int) + (m : Int)) = (i : Int) + (m : Int) := by rw [IntKind.wrap_i64]; omega
    have hb1 : (0 : Int) ≤ (i : Int) + (m : Int) := by omega
    have htn : ((i : Int) + (m : Int)).toNat = i + m := by omega
    have hb3 : (i : Int) ≤ (n : Int) + (m : Int) := by omega
    by_cases hroom : n + m ≤ c_s
    · have hne : gv ≠ g := fun e => by
        subst e
        have ha := hM0.apartAt (i := 0) (j := 1) rfl rfl (by decide)
        have hr1 : rowA (some ⟨gv, 0, none⟩) c_s = some ⟨gv, 0, none⟩ := rowA_pos hcs
        have hr2 : rowA (some ⟨gv, 0, none⟩) c_v = some ⟨gv, 0, none⟩ := rowA_pos hcv
        exact ha.1 gv (by show (rowA (some ⟨gv, 0, none⟩) c_s).map _ = _; rw [hr1]; rfl) (by show (rowA (some ⟨gv, 0, none⟩) c_v).map _ = _; rw [hr2]; rfl)
      obtain ⟨ys, hy1, hy2, hy3, hMw⟩ := hM0.drew.owide 0 rfl hcs
      have hMw : Mem w0 (orow (some ⟨g, 0, none⟩) c_s c_s 42 2 ys :: orow (some ⟨gv, 0, none⟩) m c_v 42 2 y_v :: Fz F W :: cs) w.drew := hMw
      obtain ⟨r1, _, ca, cb, _, hMB, _⟩ := Mem.twice hMw (a := i) (p := m) (q := n - i) (V := y_v) (B := B) hvl hBl (by omega)
      have htk : ys.take (i * 2) = y_s.take (i * 2) := by rw [← hy1, List.take_take, Nat.min_eq_left (by omega)]
      rw [htk, show i + m + (n - i) = n + m by omega] at r1
      refine ⟨_, _, _, ?_, r1.sub (.cons_cons _ (.cons _ (.refl _)))⟩
      obtain ⟨curb, hsb, hszb⟩ := hM0.orowAt 0 rfl hcs
      obtain ⟨curv, hsv, hszv⟩ := hM0.orowAt 1 rfl hcv
      have hov : ∀ lb cb, (callFunc 82 #[.slice (some ⟨gv, 0, none⟩) m c_v, .slice (some ⟨g, (i + m) * 2, none⟩) lb cb]).run Tryz.prog w = .ok (.value (.bool false)) w := fun lb cb => by
        rw [run_callFunc_extern Tryz.func82 (by kernel_rfl) (by kernel_rfl) (by kernel_rfl) (e := Extern.SlicesOverlaps.overlaps #[27, 27] #[4]) (by kernel_rfl),
          Lib.run_overlaps_apart w 27 4 42 Tryz.underlying27 2 (fun u => by simp [sizeOf, typeInfo, hi0, hz1]) ⟨gv, 0, none⟩ ⟨g, (i + m) * 2, none⟩ m c_v lb cb hne 42 42 curv.size curb.size (shape_of hsv) (shape_of hsb) (by omega) (frozen_none hsv _) (frozen_none hsv _)]
        rfl
      have hcp1 : ∀ ty dc sc, (Builtin.copy_ #[27, 27] ty #[.slice (some ⟨g, (i + m) * 2, none⟩) (n + m - (i + m)) dc, .slice (some ⟨g, i * 2, none⟩) (n + m - i) sc]).run Tryz.prog w.drew = .ok (goInt ((n - i : Nat) : Int)) (w.drew.setCells g ((i + m) * 2) B) := fun ty dc sc =>
        run_copy_z w.drew _ _ ty 42 2 g ((i + m) * 2) (n + m - (i + m)) dc ⟨g, i * 2, none⟩ (n + m - i) sc (n - i) B Tryz.underlying27 hsz (by show min _ _ = _; omega) hBl (hBc hM0.drew (k := 0) rfl) (fun j hj => (ca _ (by omega)).1) (fun j hj => (ca _ (by omega)).2) honeB
      have hcp2 : ∀ ty dc, (Builtin.copy_ #[27, 27] ty #[.slice (some ⟨g, i * 2, none⟩) (n + m - i) dc, .slice (some ⟨gv, 0, none⟩) m c_v]).run Tryz.prog (w.drew.setCells g ((i + m) * 2) B) = .ok (goInt (m : Int)) ((w.drew.setCells g ((i + m) * 2) B).setCells g (i * 2) y_v) := fun ty dc =>
        run_copy_z _ _ _ ty 42 2 g (i * 2) (n + m - i) dc ⟨gv, 0, none⟩ m c_v m y_v Tryz.underlying27 hsz (by show min _ _ = _; omega) hvl (hVc hMB (k := 1) rfl) (fun j hj => (cb _ (by omega)).1) (fun j hj => (cb _ (by omega)).2) honev
      have hb2 : ¬ (c_s = i + m) := by omega
      have hb4 : ¬ (c_s = i) := by omega
      clear hM0 hMw r1 ca cb hMB hBc hVc honeB hones honev hsb hsv hy1 hy2 hy3 htk hBl hyl hvl hB
      go_enter Tryz.func58, Tryz.ntmps58
      go_wp2_with (simp only [hov])
      go_region_law_o (refine step_copy_own rfl _ _ 27 27 rfl _ _ (by simp [Act.eval, Act.put]) (by simp [Act.eval, Act.put]) (hcp1 _ _ _) ?_)
      go_wp2_with (at_builtin; refine wpList_copy_own _ rfl _ _ 27 27 rfl _ _ rfl rfl (hcp2 _ _) ?_)
      go_ret
      exact ⟨rfl, rfl⟩
    · have hkk : (n : Int) + (m : Int) - (i : Int) = ((n + m - i : Nat) : Int) := by omega
      have hik : i + (n + m - i) = n + m := by omega
      have hold : (Builtin.firstCells i0.size i (.slice (some ⟨g, 0, none⟩) i c_s)).run Tryz.prog w.drew = .ok (y_s.take (i * 2)).toArray w.drew := by
        rw [hz1]
        exact run_firstCells_some w.drew 2 i ⟨g, 0, none⟩ i c_s _ (by rw [List.length_take]; omega) (fun j v hj => by
          rw [List.getElem?_take] at hj
          rw [Addr.add_lit, Nat.zero_add]
          split at hj
          · exact hM0.drew.ocell 0 rfl hj
          · cases hj)
      have hge := grownCap_ge w (n + m) c_s 42
      have hcmax : grownCap w (n + m) c_s 42 ≤ maxLen := grownCap_le_maxLen w (n + m) c_s 42 (by simp only [maxLen]; omega)
      have hrz : ∀ ty, (Builtin.append_ #[27, 3] ty #[.slice (some ⟨g, 0, none⟩) i c_s, .int .i64 ((n : Int) + (m : Int) - (i : Int))]).run Tryz.prog w = .ok (.slice (some ⟨w.heap.size, 0, none⟩) (n + m) (grownCap w (n + m) c_s 42)) (w.drew.alloc (.cells ((y_s.take (i * 2)).toArray ++ Builtin.zeroCells (.agg #[.int .i64 0, .slice none 0 0] : Value).cells (n + m - i) ++ Builtin.zeroCells (.agg #[.int .i64 0, .slice none 0 0] : Value).cells (grownCap w (n + m) c_s 42 - (n + m))) 42)) := fun ty => by
        have h := Lib.run_append_grow_zeros w 27 3 ty 42 i0 _ .i64 .i64 Tryz.underlying27 Tryz.underlying3 hi0 hz0 (some ⟨g, 0, none⟩) i c_s _ hold (n + m - i) (by omega) (by omega) (by omega) (by omega) (by rw [hz2]; omega) (by rw [hz2, hik]; exact growslice_fits (by omega) h3)
        rw [hik] at h
        rw [hkk]
        exact h
      obtain ⟨G, hG⟩ : ∃ G, G = grownCap w (n + m) c_s 42 := ⟨_, rfl⟩
      rw [← hG] at hrz hge hcmax
      obtain ⟨ROW, hROW⟩ : ∃ ROW : List Value, ROW = y_s.take (i * 2) ++ (Builtin.zeroCells (.agg #[.int .i64 0, .slice none 0 0] : Value).cells (n + m - i)).toList ++ (Builtin.zeroCells (.agg #[.int .i64 0, .slice none 0 0] : Value).cells (G - (n + m))).toList := ⟨_, rfl⟩
      have hrow : (y_s.take (i * 2)).toArray ++ Builtin.zeroCells (.agg #[.int .i64 0, .slice none 0 0] : Value).cells (n + m - i) ++ Builtin.zeroCells (.agg #[.int .i64 0, .slice none 0 0] : Value).cells (G - (n + m)) = ROW.toArray := by
        rw [hROW]
        apply Array.ext'
        simp
      rw [hrow] at hrz
      have hzs : (.agg #[.int .i64 0, .slice none 0 0] : Value).cells.size = 2 := rfl
      have hRl : ROW.length = G * 2 := by
        rw [hROW, List.length_append, List.length_append, zero_len, zero_len, List.length_take, hzs]
        omega
      have hRt : ROW.take (i * 2) = y_s.take (i * 2) := by
        rw [hROW, List.append_assoc, List.take_append_of_le_length (by rw [List.length_take]; omega), List.take_take, Nat.min_self]
      have hMn : Mem w0 (orow (some ⟨w.heap.size, 0, none⟩) G G 42 2 ROW :: orow (some ⟨g, 0, none⟩) n c_s 42 2 y_s :: orow (some ⟨gv, 0, none⟩) m c_v 42 2 y_v :: Fz F W :: cs) (w.drew.alloc (.cells ROW.toArray 42)) := hM0.drew.onew ROW 42 G 2 hRl hcmax
      obtain ⟨_, r2, ca, _, cc, _, hMV⟩ := Mem.twice hMn (a := i) (p := m) (q := n - i) (V := y_v) (B := B) hvl hBl (by omega)
      rw [hRt, show i + m + (n - i) = n + m by omega] at r2
      refine ⟨_, _, _, ?_, r2.sub (.cons_cons _ (.cons _ (.cons _ (.refl _))))⟩
      have hcpA : ∀ ty dc, (Builtin.copy_ #[27, 27] ty #[.slice (some ⟨w.heap.size, i * 2, none⟩) (n + m - i) dc, .slice (some ⟨gv, 0, none⟩) m c_v]).run Tryz.prog ((w.alloc (.cells ROW.toArray 42)).drew) = .ok (goInt (m : Int)) (((w.alloc (.cells ROW.toArray 42)).drew).setCells w.heap.size (i * 2) y_v) := fun ty dc =>
        run_copy_z _ _ _ ty 42 2 w.heap.size (i * 2) (n + m - i) dc ⟨gv, 0, none⟩ m c_v m y_v Tryz.underlying27 hsz (by show min _ _ = _; omega) hvl (hVc hMn (k := 2) rfl) (fun j hj => (ca _ (by omega)).1) (fun j hj => (ca _ (by omega)).2) honev
      have hcpB : ∀ ty dc sc, (Builtin.copy_ #[27, 27] ty #[.slice (some ⟨w.heap.size, (i + m) * 2, none⟩) (n + m - (i + m)) dc, .slice (some ⟨g, i * 2, none⟩) (n - i) sc]).run Tryz.prog (((w.alloc (.cells ROW.toArray 42)).drew).setCells w.heap.size (i * 2) y_v).drew = .ok (goInt ((n - i : Nat) : Int)) (((((w.alloc (.cells ROW.toArray 42)).drew).setCells w.heap.size (i * 2) y_v).drew).setCells w.heap.size ((i + m) * 2) B) := fun ty dc sc =>
        run_copy_z _ _ _ ty 42 2 w.heap.size ((i + m) * 2) (n + m - (i + m)) dc ⟨g, i * 2, none⟩ (n - i) sc (n - i) B Tryz.underlying27 hsz (by show min _ _ = _; omega) hBl (hBc hMV.drew (k := 1) rfl) (fun j hj => (cc _ (by omega)).1) (fun j hj => (cc _ (by omega)).2) honeB
      have hz3 : (c_s : Int) < (n : Int) + (m : Int) := by omega
      have hG63 : G ≤ 9223372036854775807 := by unfold maxLen at hcmax; omega
      have hGi : ¬ (G = i) := by omega
      have hGim : ¬ (G = i + m) := by omega
      have hci : ¬ (c_s = i) := by omega
      have hb5 : (i : Int) ≤ (n : Int) := by omega
      clear hkk hik hold hM0 hMn hMV r2 ca cc hBc hVc honeB hones honev hBl hyl hvl hB hRl hRt hzs hrow hROW hG
      go_enter Tryz.func58, Tryz.ntmps58
      go_wp2_with (first
        | (at_builtin; refine Lib.wpList_append_run _ rfl _ _ _ _ rfl _ _ rfl rfl _ _ (hrz _) ?_)
        | (at_builtin; refine wpList_copy_own _ rfl _ _ 27 27 rfl _ _ rfl rfl (hcpA _ _) ?_))
      go_region_law_o (refine step_copy_own rfl _ _ 27 27 rfl _ _ (by simp [Act.eval, Act.put]) (by simp [Act.eval, Act.put]) (hcpB _ _ _) ?_)
      go_wp2
      go_ret
      exact ⟨rfl, rfl⟩
end Go.Proofs.YtbfndcookgijfaaGreatDoor.C
