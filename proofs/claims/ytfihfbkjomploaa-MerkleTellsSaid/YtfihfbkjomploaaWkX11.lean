/- The Go functions come to what the plain functions tell. No condition. -/
import Derived.Test.YtfihfbkjomploaaProg
import Derived.Test.YtfihfbkjomploaaFnX
import Derived.Test.YtfihfbkjomploaaWkX7
import Derived.Test.YtfihfbkjomploaaWkX8
import Derived.Test.YtfihfbkjomploaaWkX10
namespace Go.Proofs.Ytfihfbkjomploaa.X
open Go Go.RowKit Go.Proofs.Ytfihfbkjomploaa.Sx
set_option linter.unusedVariables false
set_option maxHeartbeats 4000000 in
set_option maxRecDepth 100000 in
theorem tourref1_Proved_okK : ∀ (k_ : Nat) (w0 w : World) (cs : List Chunk) (F : Nat → Prop) (W : World) (A_l : Option Addr) (c_l : Nat) (l : List Int) (i : Int) (hM0 : Mem w0 (Fz F W :: cs) w) (h_l : RdS (Rep.int .u64) F W A_l c_l l) (l8003 : List Int) (hp : fixK tourref1_Proved_s k_ (l, i) = some l8003), Calls Try.prog 51 #[.slice A_l l.length c_l, vI i] w fun e w' => ∃ (A8001 : Option Addr), ∃ (c8002 : Nat), ∃ (y8004 : List Value), ((RepL (Rep.int .u64) F W l8003 y8004)) ∧ e = .returned (.slice A8001 l8003.length c8002) ∧ Mem w0 (orow A8001 l8003.length c8002 24 1 y8004 :: Fz F W :: cs) w' := by
 intro k_
 induction k_ with
 | zero => intro w0 w cs F W A_l c_l l i hM0 h_l l8003 hp; exact nomatch (show (none : Option ((List Int))) = some l8003 from hp)
 | succ k_ ih_ =>
  intro w0 w cs F W A_l c_l l i hM0 h_l l8003 hp
  obtain ⟨self_, hself_⟩ : ∃ f_ : (List Int) → Int → Option ((List Int)), f_ = fun l i => fixK tourref1_Proved_s k_ (l, i) := ⟨_, rfl⟩
  have hp : tourref1_Proved_b self_ l i = some l8003 := by rw [hself_]; exact hp
  unfold tourref1_Proved_b at hp
  refine sx_calls Try.func51 rfl (n := 39) (by kernel_rfl) (l := [(0, .slice A_l l.length c_l), (1, vI i)]) rfl (by rfl) hM0 ?_
  refine st_seq ?_
  refine st_region [oF 0] (by rfl) ?_
  refine oR [oF 0] [(0, .slice A_l l.length c_l), (1, vI i)] [0, 1] (by kernel_rfl) ?_
  refine ops_nil ?_
  refine fin_then ?_
  refine st_seq ?_
  refine st_seq ?_
  refine st_region [oF 0, oF 1, oF 2] (by rfl) ?_
  refine oR [oF 0, oF 1, oF 2] [(8, .bool ((l.length : Int) == 1)), (0, .slice A_l l.length c_l), (1, vI i)] [8, 0, 1] (by kernel_rfl) ?_
  refine ops_nil ?_
  refine fin_then ?_
  refine st_if (b := ((l.length : Int) == 1)) rfl (fun hc1 => ?_) (fun hc1 => ?_)
  · --
   have hp := cnd_t hc1 hp
   refine st_seq ?_
   refine st_region [oF 0] (by rfl) ?_
   refine oR [oF 0] [(4, .slice none 0 0)] [4] (by kernel_rfl) ?_
   refine ops_nil ?_
   refine fin_then ?_
   refine st_ret ?_
   refine fin_ret_then ?_
   refine fin_conv (l' := [(4, .slice none 0 0)]) (M' := Mem w0 (orow none ([] : List Int).length 0 24 1 [] :: Fz F W :: cs)) rfl (fun w_ h => h.onil none 24 1) ?_
   refine fin_conv (l' := [(4, .slice none ([] : List Int).length 0)]) (M' := Mem w0 (orow none ([] : List Int).length 0 24 1 [] :: Fz F W :: cs)) rfl (fun _ h => h) ?_
   have hq_ := Option.some.inj hp
   have hr0_ := hq_
   subst hr0_
   refine fin_ret [.tmp 4] [.slice none ([] : List Int).length 0] rfl rfl (fun w_ hM => (.tmp rfl .nil)) (fun w_ hM => ?_)
   exact ⟨none, 0, [], (RepL.nil (R := (Rep.int .u64))), rfl, hM⟩
  · --
   have hp := cnd_f hc1 hp
   refine st_skip ?_
   refine fin_then ?_
   refine st_seq ?_
   refine st_region [oF 0, oF 1, oF 2, oF 3] (by rfl) ?_
   refine oR [oF 0, oF 1] [(10, vI (l.length : Int)), (0, .slice A_l l.length c_l), (1, vI i)] [10, 0, 1] (by kernel_rfl) ?_
   obtain ⟨x2, hv3, hp⟩ := obind hp
   refine ops_callI (σ := Unit) (d := some 11) (f := 109) (args := #[vI (l.length : Int)]) (v := (fun _ => vI x2)) (I := (fun _ => True)) (M' := (fun _ => Mem w0 (Fz F W :: cs))) ⟨by kernel_rfl⟩ (fun w_ hM hS => (tourref1_half_ok w0 w_ (cs) F W (l.length : Int) hM  x2 hv3).mono (by rintro e w' ⟨-, rfl, h'⟩; have h' : Mem w0 (Fz F W :: cs) w' := h'; exact ⟨(), trivial, rfl, h', trivial⟩)) ?_
   rintro _ -
   refine ops_conv (l' := [(11, vI x2), (10, vI (l.length : Int)), (0, .slice A_l l.length c_l), (1, vI i)]) (M' := Mem w0 (Fz F W :: cs)) rfl (fun _ h => h) ?_
   refine oR [oF 3] [(5, vI x2), (0, .slice A_l l.length c_l), (1, vI i)] [5, 0, 1] (by kernel_rfl) ?_
   refine ops_nil ?_
   refine fin_then ?_
   refine st_seq ?_
   refine st_seq ?_
   refine st_region [oF 0, oF 1, oF 2] (by rfl) ?_
   refine oR [oF 0, oF 1, oF 2] [(14, .bool (decide (i < x2))), (5, vI x2), (0, .slice A_l l.length c_l), (1, vI i)] [14, 5, 0, 1] (by kernel_rfl) ?_
   refine ops_nil ?_
   refine fin_then ?_
   refine st_if (b := decide (i < x2)) rfl (fun hc4 => ?_) (fun hc4 => ?_)
   · --
    have hp := cnd_t hc4 hp
    refine st_join1 (σ := (Option Addr) × Nat × (List Int) × (List Value)) (L := fun x_ => match x_ with | (A5, c6, l7, y8) => [(4, .slice A5 l7.length c6)]) (N := fun x_ => match x_ with | (A5, c6, l7, y8) => Mem w0 (orow A5 l7.length c6 24 1 y8 :: Fz F W :: cs)) (I := fun x_ => match x_ with | (A5, c6, l7, y8) => (tourref1_Proved_j1 l7 = some l8003) ∧ (RepL (Rep.int .u64) F W l7 y8)) ?_ ?_
    · --
     rintro ⟨A5, c6, l7, y8⟩ ⟨hp, h9⟩
     refine st_conv (l' := [(4, .slice A5 l7.length c6)]) (M' := Mem w0 (orow A5 l7.length c6 24 1 y8 :: Fz F W :: cs)) rfl (fun _ h => h) ?_
     unfold tourref1_Proved_j1 at hp
     refine st_ret ?_
     refine fin_ret_then ?_
     have hq_ := Option.some.inj hp
     have hr0_ := hq_
     subst hr0_
     refine fin_ret [.tmp 4] [.slice A5 l7.length c6] rfl rfl (fun w_ hM => (.tmp rfl .nil)) (fun w_ hM => ?_)
     exact ⟨A5, c6, y8, h9, rfl, hM⟩
    · --
     intro HJ1
     refine st_seq ?_
     obtain ⟨l10, hv11, hp⟩ := obind hp
     obtain ⟨x21, hv22, hp⟩ := obind hp
     obtain ⟨l27, hv28, hp⟩ := obind hp
     obtain ⟨x38, hv39, hp⟩ := obind hp
     obtain ⟨l42, hv43, hp⟩ := obind hp
     refine st_region_tree (.node [oT 0, oT 1, oT 3, oT 5, oT 6] (.node [oF 2] (.leaf [oF 4, oF 7, oF 8, oF 9, oF 10, oT 11]) (.leaf [oF 7, oF 4, oF 8, oF 9, oF 10, oT 11])) (.leaf [oF 7, oF 2, oF 4, oF 8, oF 9, oF 10, oT 11])) (Mem w0 (Fz F W :: cs)) (by kernel_rfl) (by kernel_rfl) (by kernel_rfl) (fun _ d _ _ _ h => by cases d <;> exact h) (M' := Mem w0 (Fz F W :: cs)) (fun w_ hM => ⟨hM.drew, hM.drew.sub (.cons_cons _ (.refl _))⟩) ?_
     refine tree_node ?_
     refine oR [oT 0, oT 1, oT 3, oT 5, oT 6] [(21, vI x2), (20, .slice A_l l.length c_l), (18, vI i), (16, vI x2), (15, .slice A_l l.length c_l)] [21, 20, 18, 16, 15] (by kernel_rfl) ?_
     refine ops_nil ?_
     refine tree_both ?_ ?_
     · --
      refine tree_node ?_
      obtain ⟨m44, n45, hm46, hn47, h48, h49, he50⟩ := cut_some hv11
      have hl51 := cut_len he50 h48 h49
      have h52 : RdS (Rep.int .u64) F W A_l c_l l10 := by have h_ := h_l.cut h48 h49; rw [← he50] at h_; rw [show m44 = 0 by omega, cutA_zero, Nat.sub_zero] at h_; exact h_
      refine ops_val (op := (Go.Op.slice 63 (Go.Operand.tmp 15) none (some (Go.Operand.tmp 16)) none)) (d := some 17) (v := .slice A_l l10.length c_l) ⟨by kernel_rfl⟩ (run_cutH0 (by kernel_rfl) (z := 1) (by kernel_rfl) rfl rfl hn47 (Nat.le_trans h49 h_l.cap) (by omega)) ?_
      refine oR [] [(17, .slice A_l l10.length c_l), (21, vI x2), (20, .slice A_l l.length c_l), (18, vI i)] [17, 21, 20, 18] (by kernel_rfl) ?_
      refine ops_nil ?_
      refine tree_both ?_ ?_
      · --
       refine tree_leaf ?_
       rw [hself_] at hv22
       refine ops_callI (σ := (Option Addr) × Nat × (List Value)) (d := some 19) (f := 51) (args := #[.slice A_l l10.length c_l, vI i]) (v := (fun x_ => match x_ with | (A53, c54, y55) => .slice A53 x21.length c54)) (I := (fun x_ => match x_ with | (A53, c54, y55) => (RepL (Rep.int .u64) F W x21 y55))) (M' := (fun x_ => match x_ with | (A53, c54, y55) => Mem w0 (orow A53 x21.length c54 24 1 y55 :: Fz F W :: cs))) ⟨by kernel_rfl⟩ (fun w_ hM hS => (ih_ w0 w_ (cs) F W A_l c_l l10 i hM h52 x21 hv22).mono (by rintro e w' ⟨A53, c54, y55, h56, rfl, h'⟩; have h' : Mem w0 (orow A53 x21.length c54 24 1 y55 :: Fz F W :: cs) w' := h'; exact ⟨(A53, c54, y55), h56, rfl, h', (by exact h'.sub (.cons _ (.cons_cons _ (.refl _))))⟩)) ?_
       rintro ⟨A53, c54, y55⟩ h56
       refine ops_conv (l' := [(19, .slice A53 x21.length c54), (17, .slice A_l l10.length c_l), (21, vI x2), (20, .slice A_l l.length c_l), (18, vI i)]) (M' := Mem w0 (orow A53 x21.length c54 24 1 y55 :: Fz F W :: cs)) rfl (fun _ h => h) ?_
       refine oR [] [(19, .slice A53 x21.length c54), (21, vI x2), (20, .slice A_l l.length c_l)] [19, 21, 20] (by kernel_rfl) ?_
       obtain ⟨m57, n58, hm59, hn60, h61, h62, he63⟩ := cut_some hv28
       have hl64 := cut_len he63 h61 h62
       have h65 : RdS (Rep.int .u64) F W (cutA A_l c_l m57 1) (c_l - m57) l27 := by have h_ := h_l.cut h61 h62; rw [← he63] at h_; exact h_
       refine ops_val (op := (Go.Op.slice 63 (Go.Operand.tmp 20) (some (Go.Operand.tmp 21)) none none)) (d := some 22) (v := .slice (cutA A_l c_l m57 1) l27.length (c_l - m57)) ⟨by kernel_rfl⟩ (run_cutL (by kernel_rfl) (z := 1) (by kernel_rfl) rfl rfl hm59 (by omega) (by omega) rfl) ?_
       refine oR [] [(22, .slice (cutA A_l c_l m57 1) l27.length (c_l - m57)), (19, .slice A53 x21.length c54)] [22, 19] (by kernel_rfl) ?_
       refine ops_callI (σ := Unit) (d := some 23) (f := 49) (args := #[.slice (cutA A_l c_l m57 1) l27.length (c_l - m57)]) (v := (fun _ => vU x38)) (I := (fun _ => True)) (M' := (fun _ => Mem w0 (orow A53 x21.length c54 24 1 y55 :: Fz F W :: cs))) ⟨by kernel_rfl⟩ (fun w_ hM hS => (tourref1_Top_ok w0 w_ (orow A53 x21.length c54 24 1 y55 :: cs) F W (cutA A_l c_l m57 1) (c_l - m57) l27 (hM.pick 2 [1, 0] (by kernel_rfl) (by decide) rfl) h65 x38 hv39).mono (by rintro e w' ⟨-, rfl, h'⟩; have h' : Mem w0 (orow A53 x21.length c54 24 1 y55 :: Fz F W :: cs) w' := (h'.pick 2 [1, 0] (by kernel_rfl) (by decide) rfl); exact ⟨(), trivial, rfl, h', (by exact h'.sub (.cons _ (.cons_cons _ (.refl _))))⟩)) ?_
       rintro _ -
       refine ops_conv (l' := [(23, vU x38), (22, .slice (cutA A_l c_l m57 1) l27.length (c_l - m57)), (19, .slice A53 x21.length c54)]) (M' := Mem w0 (orow A53 x21.length c54 24 1 y55 :: Fz F W :: cs)) rfl (fun _ h => h) ?_
       refine oR [] [(23, vU x38), (19, .slice A53 x21.length c54)] [23, 19] (by kernel_rfl) ?_
       have h66 : RepL (Rep.int .u64) F W ([x38] : List Int) ([vU x38]) := (RepL.cons (R := (Rep.int .u64)) (F := F) (w := W) (vs := [vU x38]) (ys := []) rfl RepL.nil)
       refine ops_new (d := some 24) (o := .cells ([vU x38]).toArray 24) (v := fun g67 => .slice (some ⟨g67, 0, none⟩) ([x38] : List Int).length 1) (M' := fun g67 => Mem w0 (orow (some ⟨g67, 0, none⟩) ([x38] : List Int).length 1 24 1 ([vU x38]) :: orow A53 x21.length c54 24 1 y55 :: Fz F W :: cs)) (fun g67 => ⟨by kernel_rfl⟩) (fun w_ hM hS => ⟨hM.onew [vU x38] 24 1 1 rfl (by decide), hS.alloc _⟩) (fun g67 => ?_)
       refine oR [] [(24, .slice (some ⟨g67, 0, none⟩) ([x38] : List Int).length 1), (19, .slice A53 x21.length c54)] [24, 19] (by kernel_rfl) ?_
       obtain ⟨he68, hb69⟩ := app_some hv43
       obtain ⟨y70, hy71⟩ : ∃ y_, y55 ++ ([vU x38]) = y_ := ⟨_, rfl⟩
       have h72 : RepL (Rep.int .u64) F W l42 y70 := by rw [he68, ← hy71]; exact RepL.app h56 h66
       refine ops_appendO (x := (Go.Operand.tmp 19)) (y := (Go.Operand.tmp 24)) (t := 63) (e := 24) (d := some 25) (n' := l42.length) (z := 1) (m := ([x38] : List Int).length) (bytes := 8) (xs' := y70) (news := ([vU x38])) (zv := vU 0) 1 ⟨by kernel_rfl⟩ rfl rfl Try.underlying63 (by kernel_rfl) (by rfl) rfl (fun w_ hM => hM.srcO 0 rfl) h66.len h66.one hb69 (by have z_ := congrArg List.length he68; rw [List.length_append] at z_; exact z_.symm) hy71 (fun _ _ _ _ hS h' => h'.sub (.cons _ (.cons _ (.cons_cons _ (.refl _))))) ?_
       rintro ⟨A73, c74⟩
       refine ops_conv (l' := [(25, .slice A73 l42.length c74), (24, .slice (some ⟨g67, 0, none⟩) ([x38] : List Int).length 1), (19, .slice A53 x21.length c54)]) (M' := Mem w0 (orow (some ⟨g67, 0, none⟩) ([x38] : List Int).length 1 24 1 ([vU x38]) :: orow A73 l42.length c74 24 1 y70 :: Fz F W :: cs)) rfl (fun _ h => h) ?_
       refine oR [oT 11] [(4, .slice A73 l42.length c74)] [4] (by kernel_rfl) ?_
       refine ops_nil ?_
       exact fin_join HJ1 (A73, c74, l42, y70) ⟨hp, h72⟩ (look_has ⟨rfl, trivial⟩) (fun w_ hM => hM.pick 3 [1, 2] (by kernel_rfl) (by decide) rfl)
      · --
       refine tree_leaf ?_
       obtain ⟨m75, n76, hm77, hn78, h79, h80, he81⟩ := cut_some hv28
       have hl82 := cut_len he81 h79 h80
       have h83 : RdS (Rep.int .u64) F W (cutA A_l c_l m75 1) (c_l - m75) l27 := by have h_ := h_l.cut h79 h80; rw [← he81] at h_; exact h_
       refine ops_val (op := (Go.Op.slice 63 (Go.Operand.tmp 20) (some (Go.Operand.tmp 21)) none none)) (d := some 22) (v := .slice (cutA A_l c_l m75 1) l27.length (c_l - m75)) ⟨by kernel_rfl⟩ (run_cutL (by kernel_rfl) (z := 1) (by kernel_rfl) rfl rfl hm77 (by omega) (by omega) rfl) ?_
       refine oR [] [(22, .slice (cutA A_l c_l m75 1) l27.length (c_l - m75)), (17, .slice A_l l10.length c_l), (18, vI i)] [22, 17, 18] (by kernel_rfl) ?_
       rw [hself_] at hv22
       refine ops_callI (σ := (Option Addr) × Nat × (List Value)) (d := some 19) (f := 51) (args := #[.slice A_l l10.length c_l, vI i]) (v := (fun x_ => match x_ with | (A84, c85, y86) => .slice A84 x21.length c85)) (I := (fun x_ => match x_ with | (A84, c85, y86) => (RepL (Rep.int .u64) F W x21 y86))) (M' := (fun x_ => match x_ with | (A84, c85, y86) => Mem w0 (orow A84 x21.length c85 24 1 y86 :: Fz F W :: cs))) ⟨by kernel_rfl⟩ (fun w_ hM hS => (ih_ w0 w_ (cs) F W A_l c_l l10 i hM h52 x21 hv22).mono (by rintro e w' ⟨A84, c85, y86, h87, rfl, h'⟩; have h' : Mem w0 (orow A84 x21.length c85 24 1 y86 :: Fz F W :: cs) w' := h'; exact ⟨(A84, c85, y86), h87, rfl, h', (by exact h'.sub (.cons _ (.cons_cons _ (.refl _))))⟩)) ?_
       rintro ⟨A84, c85, y86⟩ h87
       refine ops_conv (l' := [(19, .slice A84 x21.length c85), (22, .slice (cutA A_l c_l m75 1) l27.length (c_l - m75)), (17, .slice A_l l10.length c_l), (18, vI i)]) (M' := Mem w0 (orow A84 x21.length c85 24 1 y86 :: Fz F W :: cs)) rfl (fun _ h => h) ?_
       refine oR [] [(19, .slice A84 x21.length c85), (22, .slice (cutA A_l c_l m75 1) l27.length (c_l - m75))] [19, 22] (by kernel_rfl) ?_
       refine ops_callI (σ := Unit) (d := some 23) (f := 49) (args := #[.slice (cutA A_l c_l m75 1) l27.length (c_l - m75)]) (v := (fun _ => vU x38)) (I := (fun _ => True)) (M' := (fun _ => Mem w0 (orow A84 x21.length c85 24 1 y86 :: Fz F W :: cs))) ⟨by kernel_rfl⟩ (fun w_ hM hS => (tourref1_Top_ok w0 w_ (orow A84 x21.length c85 24 1 y86 :: cs) F W (cutA A_l c_l m75 1) (c_l - m75) l27 (hM.pick 2 [1, 0] (by kernel_rfl) (by decide) rfl) h83 x38 hv39).mono (by rintro e w' ⟨-, rfl, h'⟩; have h' : Mem w0 (orow A84 x21.length c85 24 1 y86 :: Fz F W :: cs) w' := (h'.pick 2 [1, 0] (by kernel_rfl) (by decide) rfl); exact ⟨(), trivial, rfl, h', (by exact h'.sub (.cons _ (.cons_cons _ (.refl _))))⟩)) ?_
       rintro _ -
       refine ops_conv (l' := [(23, vU x38), (19, .slice A84 x21.length c85), (22, .slice (cutA A_l c_l m75 1) l27.length (c_l - m75))]) (M' := Mem w0 (orow A84 x21.length c85 24 1 y86 :: Fz F W :: cs)) rfl (fun _ h => h) ?_
       refine oR [] [(23, vU x38), (19, .slice A84 x21.length c85)] [23, 19] (by kernel_rfl) ?_
       have h88 : RepL (Rep.int .u64) F W ([x38] : List Int) ([vU x38]) := (RepL.cons (R := (Rep.int .u64)) (F := F) (w := W) (vs := [vU x38]) (ys := []) rfl RepL.nil)
       refine ops_new (d := some 24) (o := .cells ([vU x38]).toArray 24) (v := fun g89 => .slice (some ⟨g89, 0, none⟩) ([x38] : List Int).length 1) (M' := fun g89 => Mem w0 (orow (some ⟨g89, 0, none⟩) ([x38] : List Int).length 1 24 1 ([vU x38]) :: orow A84 x21.length c85 24 1 y86 :: Fz F W :: cs)) (fun g89 => ⟨by kernel_rfl⟩) (fun w_ hM hS => ⟨hM.onew [vU x38] 24 1 1 rfl (by decide), hS.alloc _⟩) (fun g89 => ?_)
       refine oR [] [(24, .slice (some ⟨g89, 0, none⟩) ([x38] : List Int).length 1), (19, .slice A84 x21.length c85)] [24, 19] (by kernel_rfl) ?_
       obtain ⟨he90, hb91⟩ := app_some hv43
       obtain ⟨y92, hy93⟩ : ∃ y_, y86 ++ ([vU x38]) = y_ := ⟨_, rfl⟩
       have h94 : RepL (Rep.int .u64) F W l42 y92 := by rw [he90, ← hy93]; exact RepL.app h87 h88
       refine ops_appendO (x := (Go.Operand.tmp 19)) (y := (Go.Operand.tmp 24)) (t := 63) (e := 24) (d := some 25) (n' := l42.length) (z := 1) (m := ([x38] : List Int).length) (bytes := 8) (xs' := y92) (news := ([vU x38])) (zv := vU 0) 1 ⟨by kernel_rfl⟩ rfl rfl Try.underlying63 (by kernel_rfl) (by rfl) rfl (fun w_ hM => hM.srcO 0 rfl) h88.len h88.one hb91 (by have z_ := congrArg List.length he90; rw [List.length_append] at z_; exact z_.symm) hy93 (fun _ _ _ _ hS h' => h'.sub (.cons _ (.cons _ (.cons_cons _ (.refl _))))) ?_
       rintro ⟨A95, c96⟩
       refine ops_conv (l' := [(25, .slice A95 l42.length c96), (24, .slice (some ⟨g89, 0, none⟩) ([x38] : List Int).length 1), (19, .slice A84 x21.length c85)]) (M' := Mem w0 (orow (some ⟨g89, 0, none⟩) ([x38] : List Int).length 1 24 1 ([vU x38]) :: orow A95 l42.length c96 24 1 y92 :: Fz F W :: cs)) rfl (fun _ h => h) ?_
       refine oR [oT 11] [(4, .slice A95 l42.length c96)] [4] (by kernel_rfl) ?_
       refine ops_nil ?_
       exact fin_join HJ1 (A95, c96, l42, y92) ⟨hp, h94⟩ (look_has ⟨rfl, trivial⟩) (fun w_ hM => hM.pick 3 [1, 2] (by kernel_rfl) (by decide) rfl)
     · --
      refine tree_leaf ?_
      obtain ⟨m97, n98, hm99, hn100, h101, h102, he103⟩ := cut_some hv28
      have hl104 := cut_len he103 h101 h102
      have h105 : RdS (Rep.int .u64) F W (cutA A_l c_l m97 1) (c_l - m97) l27 := by have h_ := h_l.cut h101 h102; rw [← he103] at h_; exact h_
      refine ops_val (op := (Go.Op.slice 63 (Go.Operand.tmp 20) (some (Go.Operand.tmp 21)) none none)) (d := some 22) (v := .slice (cutA A_l c_l m97 1) l27.length (c_l - m97)) ⟨by kernel_rfl⟩ (run_cutL (by kernel_rfl) (z := 1) (by kernel_rfl) rfl rfl hm99 (by omega) (by omega) rfl) ?_
      refine oR [] [(22, .slice (cutA A_l c_l m97 1) l27.length (c_l - m97)), (18, vI i), (16, vI x2), (15, .slice A_l l.length c_l)] [22, 18, 16, 15] (by kernel_rfl) ?_
      obtain ⟨m106, n107, hm108, hn109, h110, h111, he112⟩ := cut_some hv11
      have hl113 := cut_len he112 h110 h111
      have h114 : RdS (Rep.int .u64) F W A_l c_l l10 := by have h_ := h_l.cut h110 h111; rw [← he112] at h_; rw [show m106 = 0 by omega, cutA_zero, Nat.sub_zero] at h_; exact h_
      refine ops_val (op := (Go.Op.slice 63 (Go.Operand.tmp 15) none (some (Go.Operand.tmp 16)) none)) (d := some 17) (v := .slice A_l l10.length c_l) ⟨by kernel_rfl⟩ (run_cutH0 (by kernel_rfl) (z := 1) (by kernel_rfl) rfl rfl hn109 (Nat.le_trans h111 h_l.cap) (by omega)) ?_
      refine oR [] [(17, .slice A_l l10.length c_l), (22, .slice (cutA A_l c_l m97 1) l27.length (c_l - m97)), (18, vI i)] [17, 22, 18] (by kernel_rfl) ?_
      rw [hself_] at hv22
      refine ops_callI (σ := (Option Addr) × Nat × (List Value)) (d := some 19) (f := 51) (args := #[.slice A_l l10.length c_l, vI i]) (v := (fun x_ => match x_ with | (A115, c116, y117) => .slice A115 x21.length c116)) (I := (fun x_ => match x_ with | (A115, c116, y117) => (RepL (Rep.int .u64) F W x21 y117))) (M' := (fun x_ => match x_ with | (A115, c116, y117) => Mem w0 (orow A115 x21.length c116 24 1 y117 :: Fz F W :: cs))) ⟨by kernel_rfl⟩ (fun w_ hM hS => (ih_ w0 w_ (cs) F W A_l c_l l10 i hM h114 x21 hv22).mono (by rintro e w' ⟨A115, c116, y117, h118, rfl, h'⟩; have h' : Mem w0 (orow A115 x21.length c116 24 1 y117 :: Fz F W :: cs) w' := h'; exact ⟨(A115, c116, y117), h118, rfl, h', (by exact h'.sub (.cons _ (.cons_cons _ (.refl _))))⟩)) ?_
      rintro ⟨A115, c116, y117⟩ h118
      refine ops_conv (l' := [(19, .slice A115 x21.length c116), (17, .slice A_l l10.length c_l), (22, .slice (cutA A_l c_l m97 1) l27.length (c_l - m97)), (18, vI i)]) (M' := Mem w0 (orow A115 x21.length c116 24 1 y117 :: Fz F W :: cs)) rfl (fun _ h => h) ?_
      refine oR [] [(19, .slice A115 x21.length c116), (22, .slice (cutA A_l c_l m97 1) l27.length (c_l - m97))] [19, 22] (by kernel_rfl) ?_
      refine ops_callI (σ := Unit) (d := some 23) (f := 49) (args := #[.slice (cutA A_l c_l m97 1) l27.length (c_l - m97)]) (v := (fun _ => vU x38)) (I := (fun _ => True)) (M' := (fun _ => Mem w0 (orow A115 x21.length c116 24 1 y117 :: Fz F W :: cs))) ⟨by kernel_rfl⟩ (fun w_ hM hS => (tourref1_Top_ok w0 w_ (orow A115 x21.length c116 24 1 y117 :: cs) F W (cutA A_l c_l m97 1) (c_l - m97) l27 (hM.pick 2 [1, 0] (by kernel_rfl) (by decide) rfl) h105 x38 hv39).mono (by rintro e w' ⟨-, rfl, h'⟩; have h' : Mem w0 (orow A115 x21.length c116 24 1 y117 :: Fz F W :: cs) w' := (h'.pick 2 [1, 0] (by kernel_rfl) (by decide) rfl); exact ⟨(), trivial, rfl, h', (by exact h'.sub (.cons _ (.cons_cons _ (.refl _))))⟩)) ?_
      rintro _ -
      refine ops_conv (l' := [(23, vU x38), (19, .slice A115 x21.length c116), (22, .slice (cutA A_l c_l m97 1) l27.length (c_l - m97))]) (M' := Mem w0 (orow A115 x21.length c116 24 1 y117 :: Fz F W :: cs)) rfl (fun _ h => h) ?_
      refine oR [] [(23, vU x38), (19, .slice A115 x21.length c116)] [23, 19] (by kernel_rfl) ?_
      have h119 : RepL (Rep.int .u64) F W ([x38] : List Int) ([vU x38]) := (RepL.cons (R := (Rep.int .u64)) (F := F) (w := W) (vs := [vU x38]) (ys := []) rfl RepL.nil)
      refine ops_new (d := some 24) (o := .cells ([vU x38]).toArray 24) (v := fun g120 => .slice (some ⟨g120, 0, none⟩) ([x38] : List Int).length 1) (M' := fun g120 => Mem w0 (orow (some ⟨g120, 0, none⟩) ([x38] : List Int).length 1 24 1 ([vU x38]) :: orow A115 x21.length c116 24 1 y117 :: Fz F W :: cs)) (fun g120 => ⟨by kernel_rfl⟩) (fun w_ hM hS => ⟨hM.onew [vU x38] 24 1 1 rfl (by decide), hS.alloc _⟩) (fun g120 => ?_)
      refine oR [] [(24, .slice (some ⟨g120, 0, none⟩) ([x38] : List Int).length 1), (19, .slice A115 x21.length c116)] [24, 19] (by kernel_rfl) ?_
      obtain ⟨he121, hb122⟩ := app_some hv43
      obtain ⟨y123, hy124⟩ : ∃ y_, y117 ++ ([vU x38]) = y_ := ⟨_, rfl⟩
      have h125 : RepL (Rep.int .u64) F W l42 y123 := by rw [he121, ← hy124]; exact RepL.app h118 h119
      refine ops_appendO (x := (Go.Operand.tmp 19)) (y := (Go.Operand.tmp 24)) (t := 63) (e := 24) (d := some 25) (n' := l42.length) (z := 1) (m := ([x38] : List Int).length) (bytes := 8) (xs' := y123) (news := ([vU x38])) (zv := vU 0) 1 ⟨by kernel_rfl⟩ rfl rfl Try.underlying63 (by kernel_rfl) (by rfl) rfl (fun w_ hM => hM.srcO 0 rfl) h119.len h119.one hb122 (by have z_ := congrArg List.length he121; rw [List.length_append] at z_; exact z_.symm) hy124 (fun _ _ _ _ hS h' => h'.sub (.cons _ (.cons _ (.cons_cons _ (.refl _))))) ?_
      rintro ⟨A126, c127⟩
      refine ops_conv (l' := [(25, .slice A126 l42.length c127), (24, .slice (some ⟨g120, 0, none⟩) ([x38] : List Int).length 1), (19, .slice A115 x21.length c116)]) (M' := Mem w0 (orow (some ⟨g120, 0, none⟩) ([x38] : List Int).length 1 24 1 ([vU x38]) :: orow A126 l42.length c127 24 1 y123 :: Fz F W :: cs)) rfl (fun _ h => h) ?_
      refine oR [oT 11] [(4, .slice A126 l42.length c127)] [4] (by kernel_rfl) ?_
      refine ops_nil ?_
      exact fin_join HJ1 (A126, c127, l42, y123) ⟨hp, h125⟩ (look_has ⟨rfl, trivial⟩) (fun w_ hM => hM.pick 3 [1, 2] (by kernel_rfl) (by decide) rfl)
   · --
    have hp := cnd_f hc4 hp
    refine st_skip ?_
    refine fin_then ?_
    refine st_join1 (σ := (Option Addr) × Nat × (List Int) × (List Value)) (L := fun x_ => match x_ with | (A128, c129, l130, y131) => [(4, .slice A128 l130.length c129)]) (N := fun x_ => match x_ with | (A128, c129, l130, y131) => Mem w0 (orow A128 l130.length c129 24 1 y131 :: Fz F W :: cs)) (I := fun x_ => match x_ with | (A128, c129, l130, y131) => (tourref1_Proved_j2 l130 = some l8003) ∧ (RepL (Rep.int .u64) F W l130 y131)) ?_ ?_
    · --
     rintro ⟨A128, c129, l130, y131⟩ ⟨hp, h132⟩
     refine st_conv (l' := [(4, .slice A128 l130.length c129)]) (M' := Mem w0 (orow A128 l130.length c129 24 1 y131 :: Fz F W :: cs)) rfl (fun _ h => h) ?_
     unfold tourref1_Proved_j2 at hp
     refine st_ret ?_
     have hq_ := Option.some.inj hp
     have hr0_ := hq_
     subst hr0_
     refine fin_ret [.tmp 4] [.slice A128 l130.length c129] rfl rfl (fun w_ hM => (.tmp rfl .nil)) (fun w_ hM => ?_)
     exact ⟨A128, c129, y131, h132, rfl, hM⟩
    · --
     intro HJ2
     refine st_seq ?_
     obtain ⟨l133, hv134, hp⟩ := obind hp
     obtain ⟨x144, hv145, hp⟩ := obind hp
     obtain ⟨l150, hv151, hp⟩ := obind hp
     obtain ⟨x161, hv162, hp⟩ := obind hp
     obtain ⟨l165, hv166, hp⟩ := obind hp
     refine st_region_tree (.node [oT 0, oT 1, oT 3, oT 4, oT 5, oT 7, oT 8] (.node [oF 2] (.leaf [oF 6, oF 9, oF 10, oF 11, oF 12, oT 13]) (.leaf [oF 9, oF 6, oF 10, oF 11, oF 12, oT 13])) (.leaf [oF 9, oF 2, oF 6, oF 10, oF 11, oF 12, oT 13])) (Mem w0 (Fz F W :: cs)) (by kernel_rfl) (by kernel_rfl) (by kernel_rfl) (fun _ d _ _ _ h => by cases d <;> exact h) (M' := Mem w0 (Fz F W :: cs)) (fun w_ hM => ⟨hM.drew, hM.drew.sub (.cons_cons _ (.refl _))⟩) ?_
     refine tree_node ?_
     refine oR [oT 0, oT 1, oT 3, oT 4, oT 5, oT 7, oT 8] [(34, vI x2), (33, .slice A_l l.length c_l), (31, vI (IntKind.i64.wrap (i - x2))), (27, vI x2), (26, .slice A_l l.length c_l)] [34, 33, 31, 27, 26] (by kernel_rfl) ?_
     refine ops_nil ?_
     refine tree_both ?_ ?_
     · --
      refine tree_node ?_
      obtain ⟨m167, n168, hm169, hn170, h171, h172, he173⟩ := cut_some hv134
      have hl174 := cut_len he173 h171 h172
      have h175 : RdS (Rep.int .u64) F W (cutA A_l c_l m167 1) (c_l - m167) l133 := by have h_ := h_l.cut h171 h172; rw [← he173] at h_; exact h_
      refine ops_val (op := (Go.Op.slice 63 (Go.Operand.tmp 26) (some (Go.Operand.tmp 27)) none none)) (d := some 28) (v := .slice (cutA A_l c_l m167 1) l133.length (c_l - m167)) ⟨by kernel_rfl⟩ (run_cutL (by kernel_rfl) (z := 1) (by kernel_rfl) rfl rfl hm169 (by omega) (by omega) rfl) ?_
      refine oR [] [(28, .slice (cutA A_l c_l m167 1) l133.length (c_l - m167)), (34, vI x2), (33, .slice A_l l.length c_l), (31, vI (IntKind.i64.wrap (i - x2)))] [28, 34, 33, 31] (by kernel_rfl) ?_
      refine ops_nil ?_
      refine tree_both ?_ ?_
      · --
       refine tree_leaf ?_
       rw [hself_] at hv145
       refine ops_callI (σ := (Option Addr) × Nat × (List Value)) (d := some 32) (f := 51) (args := #[.slice (cutA A_l c_l m167 1) l133.length (c_l - m167), vI (IntKind.i64.wrap (i - x2))]) (v := (fun x_ => match x_ with | (A176, c177, y178) => .slice A176 x144.length c177)) (I := (fun x_ => match x_ with | (A176, c177, y178) => (RepL (Rep.int .u64) F W x144 y178))) (M' := (fun x_ => match x_ with | (A176, c177, y178) => Mem w0 (orow A176 x144.length c177 24 1 y178 :: Fz F W :: cs))) ⟨by kernel_rfl⟩ (fun w_ hM hS => (ih_ w0 w_ (cs) F W (cutA A_l c_l m167 1) (c_l - m167) l133 (IntKind.i64.wrap (i - x2)) hM h175 x144 hv145).mono (by rintro e w' ⟨A176, c177, y178, h179, rfl, h'⟩; have h' : Mem w0 (orow A176 x144.length c177 24 1 y178 :: Fz F W :: cs) w' := h'; exact ⟨(A176, c177, y178), h179, rfl, h', (by exact h'.sub (.cons _ (.cons_cons _ (.refl _))))⟩)) ?_
       rintro ⟨A176, c177, y178⟩ h179
       refine ops_conv (l' := [(32, .slice A176 x144.length c177), (28, .slice (cutA A_l c_l m167 1) l133.length (c_l - m167)), (34, vI x2), (33, .slice A_l l.length c_l), (31, vI (IntKind.i64.wrap (i - x2)))]) (M' := Mem w0 (orow A176 x144.length c177 24 1 y178 :: Fz F W :: cs)) rfl (fun _ h => h) ?_
       refine oR [] [(32, .slice A176 x144.length c177), (34, vI x2), (33, .slice A_l l.length c_l)] [32, 34, 33] (by kernel_rfl) ?_
       obtain ⟨m180, n181, hm182, hn183, h184, h185, he186⟩ := cut_some hv151
       have hl187 := cut_len he186 h184 h185
       have h188 : RdS (Rep.int .u64) F W A_l c_l l150 := by have h_ := h_l.cut h184 h185; rw [← he186] at h_; rw [show m180 = 0 by omega, cutA_zero, Nat.sub_zero] at h_; exact h_
       refine ops_val (op := (Go.Op.slice 63 (Go.Operand.tmp 33) none (some (Go.Operand.tmp 34)) none)) (d := some 35) (v := .slice A_l l150.length c_l) ⟨by kernel_rfl⟩ (run_cutH0 (by kernel_rfl) (z := 1) (by kernel_rfl) rfl rfl hn183 (Nat.le_trans h185 h_l.cap) (by omega)) ?_
       refine oR [] [(35, .slice A_l l150.length c_l), (32, .slice A176 x144.length c177)] [35, 32] (by kernel_rfl) ?_
       refine ops_callI (σ := Unit) (d := some 36) (f := 49) (args := #[.slice A_l l150.length c_l]) (v := (fun _ => vU x161)) (I := (fun _ => True)) (M' := (fun _ => Mem w0 (orow A176 x144.length c177 24 1 y178 :: Fz F W :: cs))) ⟨by kernel_rfl⟩ (fun w_ hM hS => (tourref1_Top_ok w0 w_ (orow A176 x144.length c177 24 1 y178 :: cs) F W A_l c_l l150 (hM.pick 2 [1, 0] (by kernel_rfl) (by decide) rfl) h188 x161 hv162).mono (by rintro e w' ⟨-, rfl, h'⟩; have h' : Mem w0 (orow A176 x144.length c177 24 1 y178 :: Fz F W :: cs) w' := (h'.pick 2 [1, 0] (by kernel_rfl) (by decide) rfl); exact ⟨(), trivial, rfl, h', (by exact h'.sub (.cons _ (.cons_cons _ (.refl _))))⟩)) ?_
       rintro _ -
       refine ops_conv (l' := [(36, vU x161), (35, .slice A_l l150.length c_l), (32, .slice A176 x144.length c177)]) (M' := Mem w0 (orow A176 x144.length c177 24 1 y178 :: Fz F W :: cs)) rfl (fun _ h => h) ?_
       refine oR [] [(36, vU x161), (32, .slice A176 x144.length c177)] [36, 32] (by kernel_rfl) ?_
       have h189 : RepL (Rep.int .u64) F W ([x161] : List Int) ([vU x161]) := (RepL.cons (R := (Rep.int .u64)) (F := F) (w := W) (vs := [vU x161]) (ys := []) rfl RepL.nil)
       refine ops_new (d := some 37) (o := .cells ([vU x161]).toArray 24) (v := fun g190 => .slice (some ⟨g190, 0, none⟩) ([x161] : List Int).length 1) (M' := fun g190 => Mem w0 (orow (some ⟨g190, 0, none⟩) ([x161] : List Int).length 1 24 1 ([vU x161]) :: orow A176 x144.length c177 24 1 y178 :: Fz F W :: cs)) (fun g190 => ⟨by kernel_rfl⟩) (fun w_ hM hS => ⟨hM.onew [vU x161] 24 1 1 rfl (by decide), hS.alloc _⟩) (fun g190 => ?_)
       refine oR [] [(37, .slice (some ⟨g190, 0, none⟩) ([x161] : List Int).length 1), (32, .slice A176 x144.length c177)] [37, 32] (by kernel_rfl) ?_
       obtain ⟨he191, hb192⟩ := app_some hv166
       obtain ⟨y193, hy194⟩ : ∃ y_, y178 ++ ([vU x161]) = y_ := ⟨_, rfl⟩
       have h195 : RepL (Rep.int .u64) F W l165 y193 := by rw [he191, ← hy194]; exact RepL.app h179 h189
       refine ops_appendO (x := (Go.Operand.tmp 32)) (y := (Go.Operand.tmp 37)) (t := 63) (e := 24) (d := some 38) (n' := l165.length) (z := 1) (m := ([x161] : List Int).length) (bytes := 8) (xs' := y193) (news := ([vU x161])) (zv := vU 0) 1 ⟨by kernel_rfl⟩ rfl rfl Try.underlying63 (by kernel_rfl) (by rfl) rfl (fun w_ hM => hM.srcO 0 rfl) h189.len h189.one hb192 (by have z_ := congrArg List.length he191; rw [List.length_append] at z_; exact z_.symm) hy194 (fun _ _ _ _ hS h' => h'.sub (.cons _ (.cons _ (.cons_cons _ (.refl _))))) ?_
       rintro ⟨A196, c197⟩
       refine ops_conv (l' := [(38, .slice A196 l165.length c197), (37, .slice (some ⟨g190, 0, none⟩) ([x161] : List Int).length 1), (32, .slice A176 x144.length c177)]) (M' := Mem w0 (orow (some ⟨g190, 0, none⟩) ([x161] : List Int).length 1 24 1 ([vU x161]) :: orow A196 l165.length c197 24 1 y193 :: Fz F W :: cs)) rfl (fun _ h => h) ?_
       refine oR [oT 13] [(4, .slice A196 l165.length c197)] [4] (by kernel_rfl) ?_
       refine ops_nil ?_
       exact fin_join HJ2 (A196, c197, l165, y193) ⟨hp, h195⟩ (look_has ⟨rfl, trivial⟩) (fun w_ hM => hM.pick 3 [1, 2] (by kernel_rfl) (by decide) rfl)
      · --
       refine tree_leaf ?_
       obtain ⟨m198, n199, hm200, hn201, h202, h203, he204⟩ := cut_some hv151
       have hl205 := cut_len he204 h202 h203
       have h206 : RdS (Rep.int .u64) F W A_l c_l l150 := by have h_ := h_l.cut h202 h203; rw [← he204] at h_; rw [show m198 = 0 by omega, cutA_zero, Nat.sub_zero] at h_; exact h_
       refine ops_val (op := (Go.Op.slice 63 (Go.Operand.tmp 33) none (some (Go.Operand.tmp 34)) none)) (d := some 35) (v := .slice A_l l150.length c_l) ⟨by kernel_rfl⟩ (run_cutH0 (by kernel_rfl) (z := 1) (by kernel_rfl) rfl rfl hn201 (Nat.le_trans h203 h_l.cap) (by omega)) ?_
       refine oR [] [(35, .slice A_l l150.length c_l), (28, .slice (cutA A_l c_l m167 1) l133.length (c_l - m167)), (31, vI (IntKind.i64.wrap (i - x2)))] [35, 28, 31] (by kernel_rfl) ?_
       rw [hself_] at hv145
       refine ops_callI (σ := (Option Addr) × Nat × (List Value)) (d := some 32) (f := 51) (args := #[.slice (cutA A_l c_l m167 1) l133.length (c_l - m167), vI (IntKind.i64.wrap (i - x2))]) (v := (fun x_ => match x_ with | (A207, c208, y209) => .slice A207 x144.length c208)) (I := (fun x_ => match x_ with | (A207, c208, y209) => (RepL (Rep.int .u64) F W x144 y209))) (M' := (fun x_ => match x_ with | (A207, c208, y209) => Mem w0 (orow A207 x144.length c208 24 1 y209 :: Fz F W :: cs))) ⟨by kernel_rfl⟩ (fun w_ hM hS => (ih_ w0 w_ (cs) F W (cutA A_l c_l m167 1) (c_l - m167) l133 (IntKind.i64.wrap (i - x2)) hM h175 x144 hv145).mono (by rintro e w' ⟨A207, c208, y209, h210, rfl, h'⟩; have h' : Mem w0 (orow A207 x144.length c208 24 1 y209 :: Fz F W :: cs) w' := h'; exact ⟨(A207, c208, y209), h210, rfl, h', (by exact h'.sub (.cons _ (.cons_cons _ (.refl _))))⟩)) ?_
       rintro ⟨A207, c208, y209⟩ h210
       refine ops_conv (l' := [(32, .slice A207 x144.length c208), (35, .slice A_l l150.length c_l), (28, .slice (cutA A_l c_l m167 1) l133.length (c_l - m167)), (31, vI (IntKind.i64.wrap (i - x2)))]) (M' := Mem w0 (orow A207 x144.length c208 24 1 y209 :: Fz F W :: cs)) rfl (fun _ h => h) ?_
       refine oR [] [(32, .slice A207 x144.length c208), (35, .slice A_l l150.length c_l)] [32, 35] (by kernel_rfl) ?_
       refine ops_callI (σ := Unit) (d := some 36) (f := 49) (args := #[.slice A_l l150.length c_l]) (v := (fun _ => vU x161)) (I := (fun _ => True)) (M' := (fun _ => Mem w0 (orow A207 x144.length c208 24 1 y209 :: Fz F W :: cs))) ⟨by kernel_rfl⟩ (fun w_ hM hS => (tourref1_Top_ok w0 w_ (orow A207 x144.length c208 24 1 y209 :: cs) F W A_l c_l l150 (hM.pick 2 [1, 0] (by kernel_rfl) (by decide) rfl) h206 x161 hv162).mono (by rintro e w' ⟨-, rfl, h'⟩; have h' : Mem w0 (orow A207 x144.length c208 24 1 y209 :: Fz F W :: cs) w' := (h'.pick 2 [1, 0] (by kernel_rfl) (by decide) rfl); exact ⟨(), trivial, rfl, h', (by exact h'.sub (.cons _ (.cons_cons _ (.refl _))))⟩)) ?_
       rintro _ -
       refine ops_conv (l' := [(36, vU x161), (32, .slice A207 x144.length c208), (35, .slice A_l l150.length c_l)]) (M' := Mem w0 (orow A207 x144.length c208 24 1 y209 :: Fz F W :: cs)) rfl (fun _ h => h) ?_
       refine oR [] [(36, vU x161), (32, .slice A207 x144.length c208)] [36, 32] (by kernel_rfl) ?_
       have h211 : RepL (Rep.int .u64) F W ([x161] : List Int) ([vU x161]) := (RepL.cons (R := (Rep.int .u64)) (F := F) (w := W) (vs := [vU x161]) (ys := []) rfl RepL.nil)
       refine ops_new (d := some 37) (o := .cells ([vU x161]).toArray 24) (v := fun g212 => .slice (some ⟨g212, 0, none⟩) ([x161] : List Int).length 1) (M' := fun g212 => Mem w0 (orow (some ⟨g212, 0, none⟩) ([x161] : List Int).length 1 24 1 ([vU x161]) :: orow A207 x144.length c208 24 1 y209 :: Fz F W :: cs)) (fun g212 => ⟨by kernel_rfl⟩) (fun w_ hM hS => ⟨hM.onew [vU x161] 24 1 1 rfl (by decide), hS.alloc _⟩) (fun g212 => ?_)
       refine oR [] [(37, .slice (some ⟨g212, 0, none⟩) ([x161] : List Int).length 1), (32, .slice A207 x144.length c208)] [37, 32] (by kernel_rfl) ?_
       obtain ⟨he213, hb214⟩ := app_some hv166
       obtain ⟨y215, hy216⟩ : ∃ y_, y209 ++ ([vU x161]) = y_ := ⟨_, rfl⟩
       have h217 : RepL (Rep.int .u64) F W l165 y215 := by rw [he213, ← hy216]; exact RepL.app h210 h211
       refine ops_appendO (x := (Go.Operand.tmp 32)) (y := (Go.Operand.tmp 37)) (t := 63) (e := 24) (d := some 38) (n' := l165.length) (z := 1) (m := ([x161] : List Int).length) (bytes := 8) (xs' := y215) (news := ([vU x161])) (zv := vU 0) 1 ⟨by kernel_rfl⟩ rfl rfl Try.underlying63 (by kernel_rfl) (by rfl) rfl (fun w_ hM => hM.srcO 0 rfl) h211.len h211.one hb214 (by have z_ := congrArg List.length he213; rw [List.length_append] at z_; exact z_.symm) hy216 (fun _ _ _ _ hS h' => h'.sub (.cons _ (.cons _ (.cons_cons _ (.refl _))))) ?_
       rintro ⟨A218, c219⟩
       refine ops_conv (l' := [(38, .slice A218 l165.length c219), (37, .slice (some ⟨g212, 0, none⟩) ([x161] : List Int).length 1), (32, .slice A207 x144.length c208)]) (M' := Mem w0 (orow (some ⟨g212, 0, none⟩) ([x161] : List Int).length 1 24 1 ([vU x161]) :: orow A218 l165.length c219 24 1 y215 :: Fz F W :: cs)) rfl (fun _ h => h) ?_
       refine oR [oT 13] [(4, .slice A218 l165.length c219)] [4] (by kernel_rfl) ?_
       refine ops_nil ?_
       exact fin_join HJ2 (A218, c219, l165, y215) ⟨hp, h217⟩ (look_has ⟨rfl, trivial⟩) (fun w_ hM => hM.pick 3 [1, 2] (by kernel_rfl) (by decide) rfl)
     · --
      refine tree_leaf ?_
      obtain ⟨m220, n221, hm222, hn223, h224, h225, he226⟩ := cut_some hv151
      have hl227 := cut_len he226 h224 h225
      have h228 : RdS (Rep.int .u64) F W A_l c_l l150 := by have h_ := h_l.cut h224 h225; rw [← he226] at h_; rw [show m220 = 0 by omega, cutA_zero, Nat.sub_zero] at h_; exact h_
      refine ops_val (op := (Go.Op.slice 63 (Go.Operand.tmp 33) none (some (Go.Operand.tmp 34)) none)) (d := some 35) (v := .slice A_l l150.length c_l) ⟨by kernel_rfl⟩ (run_cutH0 (by kernel_rfl) (z := 1) (by kernel_rfl) rfl rfl hn223 (Nat.le_trans h225 h_l.cap) (by omega)) ?_
      refine oR [] [(35, .slice A_l l150.length c_l), (31, vI (IntKind.i64.wrap (i - x2))), (27, vI x2), (26, .slice A_l l.length c_l)] [35, 31, 27, 26] (by kernel_rfl) ?_
      obtain ⟨m229, n230, hm231, hn232, h233, h234, he235⟩ := cut_some hv134
      have hl236 := cut_len he235 h233 h234
      have h237 : RdS (Rep.int .u64) F W (cutA A_l c_l m229 1) (c_l - m229) l133 := by have h_ := h_l.cut h233 h234; rw [← he235] at h_; exact h_
      refine ops_val (op := (Go.Op.slice 63 (Go.Operand.tmp 26) (some (Go.Operand.tmp 27)) none none)) (d := some 28) (v := .slice (cutA A_l c_l m229 1) l133.length (c_l - m229)) ⟨by kernel_rfl⟩ (run_cutL (by kernel_rfl) (z := 1) (by kernel_rfl) rfl rfl hm231 (by omega) (by omega) rfl) ?_
      refine oR [] [(28, .slice (cutA A_l c_l m229 1) l133.length (c_l - m229)), (35, .slice A_l l150.length c_l), (31, vI (IntKind.i64.wrap (i - x2)))] [28, 35, 31] (by kernel_rfl) ?_
      rw [hself_] at hv145
      refine ops_callI (σ := (Option Addr) × Nat × (List Value)) (d := some 32) (f := 51) (args := #[.slice (cutA A_l c_l m229 1) l133.length (c_l - m229), vI (IntKind.i64.wrap (i - x2))]) (v := (fun x_ => match x_ with | (A238, c239, y240) => .slice A238 x144.length c239)) (I := (fun x_ => match x_ with | (A238, c239, y240) => (RepL (Rep.int .u64) F W x144 y240))) (M' := (fun x_ => match x_ with | (A238, c239, y240) => Mem w0 (orow A238 x144.length c239 24 1 y240 :: Fz F W :: cs))) ⟨by kernel_rfl⟩ (fun w_ hM hS => (ih_ w0 w_ (cs) F W (cutA A_l c_l m229 1) (c_l - m229) l133 (IntKind.i64.wrap (i - x2)) hM h237 x144 hv145).mono (by rintro e w' ⟨A238, c239, y240, h241, rfl, h'⟩; have h' : Mem w0 (orow A238 x144.length c239 24 1 y240 :: Fz F W :: cs) w' := h'; exact ⟨(A238, c239, y240), h241, rfl, h', (by exact h'.sub (.cons _ (.cons_cons _ (.refl _))))⟩)) ?_
      rintro ⟨A238, c239, y240⟩ h241
      refine ops_conv (l' := [(32, .slice A238 x144.length c239), (28, .slice (cutA A_l c_l m229 1) l133.length (c_l - m229)), (35, .slice A_l l150.length c_l), (31, vI (IntKind.i64.wrap (i - x2)))]) (M' := Mem w0 (orow A238 x144.length c239 24 1 y240 :: Fz F W :: cs)) rfl (fun _ h => h) ?_
      refine oR [] [(32, .slice A238 x144.length c239), (35, .slice A_l l150.length c_l)] [32, 35] (by kernel_rfl) ?_
      refine ops_callI (σ := Unit) (d := some 36) (f := 49) (args := #[.slice A_l l150.length c_l]) (v := (fun _ => vU x161)) (I := (fun _ => True)) (M' := (fun _ => Mem w0 (orow A238 x144.length c239 24 1 y240 :: Fz F W :: cs))) ⟨by kernel_rfl⟩ (fun w_ hM hS => (tourref1_Top_ok w0 w_ (orow A238 x144.length c239 24 1 y240 :: cs) F W A_l c_l l150 (hM.pick 2 [1, 0] (by kernel_rfl) (by decide) rfl) h228 x161 hv162).mono (by rintro e w' ⟨-, rfl, h'⟩; have h' : Mem w0 (orow A238 x144.length c239 24 1 y240 :: Fz F W :: cs) w' := (h'.pick 2 [1, 0] (by kernel_rfl) (by decide) rfl); exact ⟨(), trivial, rfl, h', (by exact h'.sub (.cons _ (.cons_cons _ (.refl _))))⟩)) ?_
      rintro _ -
      refine ops_conv (l' := [(36, vU x161), (32, .slice A238 x144.length c239), (35, .slice A_l l150.length c_l)]) (M' := Mem w0 (orow A238 x144.length c239 24 1 y240 :: Fz F W :: cs)) rfl (fun _ h => h) ?_
      refine oR [] [(36, vU x161), (32, .slice A238 x144.length c239)] [36, 32] (by kernel_rfl) ?_
      have h242 : RepL (Rep.int .u64) F W ([x161] : List Int) ([vU x161]) := (RepL.cons (R := (Rep.int .u64)) (F := F) (w := W) (vs := [vU x161]) (ys := []) rfl RepL.nil)
      refine ops_new (d := some 37) (o := .cells ([vU x161]).toArray 24) (v := fun g243 => .slice (some ⟨g243, 0, none⟩) ([x161] : List Int).length 1) (M' := fun g243 => Mem w0 (orow (some ⟨g243, 0, none⟩) ([x161] : List Int).length 1 24 1 ([vU x161]) :: orow A238 x144.length c239 24 1 y240 :: Fz F W :: cs)) (fun g243 => ⟨by kernel_rfl⟩) (fun w_ hM hS => ⟨hM.onew [vU x161] 24 1 1 rfl (by decide), hS.alloc _⟩) (fun g243 => ?_)
      refine oR [] [(37, .slice (some ⟨g243, 0, none⟩) ([x161] : List Int).length 1), (32, .slice A238 x144.length c239)] [37, 32] (by kernel_rfl) ?_
      obtain ⟨he244, hb245⟩ := app_some hv166
      obtain ⟨y246, hy247⟩ : ∃ y_, y240 ++ ([vU x161]) = y_ := ⟨_, rfl⟩
      have h248 : RepL (Rep.int .u64) F W l165 y246 := by rw [he244, ← hy247]; exact RepL.app h241 h242
      refine ops_appendO (x := (Go.Operand.tmp 32)) (y := (Go.Operand.tmp 37)) (t := 63) (e := 24) (d := some 38) (n' := l165.length) (z := 1) (m := ([x161] : List Int).length) (bytes := 8) (xs' := y246) (news := ([vU x161])) (zv := vU 0) 1 ⟨by kernel_rfl⟩ rfl rfl Try.underlying63 (by kernel_rfl) (by rfl) rfl (fun w_ hM => hM.srcO 0 rfl) h242.len h242.one hb245 (by have z_ := congrArg List.length he244; rw [List.length_append] at z_; exact z_.symm) hy247 (fun _ _ _ _ hS h' => h'.sub (.cons _ (.cons _ (.cons_cons _ (.refl _))))) ?_
      rintro ⟨A249, c250⟩
      refine ops_conv (l' := [(38, .slice A249 l165.length c250), (37, .slice (some ⟨g243, 0, none⟩) ([x161] : List Int).length 1), (32, .slice A238 x144.length c239)]) (M' := Mem w0 (orow (some ⟨g243, 0, none⟩) ([x161] : List Int).length 1 24 1 ([vU x161]) :: orow A249 l165.length c250 24 1 y246 :: Fz F W :: cs)) rfl (fun _ h => h) ?_
      refine oR [oT 13] [(4, .slice A249 l165.length c250)] [4] (by kernel_rfl) ?_
      refine ops_nil ?_
      exact fin_join HJ2 (A249, c250, l165, y246) ⟨hp, h248⟩ (look_has ⟨rfl, trivial⟩) (fun w_ hM => hM.pick 3 [1, 2] (by kernel_rfl) (by decide) rfl)
theorem tourref1_Proved_ok (w0 w : World) (cs : List Chunk) (F : Nat → Prop) (W : World) (A_l : Option Addr) (c_l : Nat) (l : List Int) (i : Int) (hM0 : Mem w0 (Fz F W :: cs) w) (h_l : RdS (Rep.int .u64) F W A_l c_l l) (l8003 : List Int) (hp : tourref1_Proved l i = some l8003) : Calls Try.prog 51 #[.slice A_l l.length c_l, vI i] w fun e w' => ∃ (A8001 : Option Addr), ∃ (c8002 : Nat), ∃ (y8004 : List Value), ((RepL (Rep.int .u64) F W l8003 y8004)) ∧ e = .returned (.slice A8001 l8003.length c8002) ∧ Mem w0 (orow A8001 l8003.length c8002 24 1 y8004 :: Fz F W :: cs) w' := by
 obtain ⟨k_, hk_⟩ := fix_some hp
 exact tourref1_Proved_okK k_ w0 w cs F W A_l c_l l i hM0 h_l l8003 hk_
set_option maxHeartbeats 4000000 in
set_option maxRecDepth 100000 in
theorem slices_Equal_uint64_uint64_ok (w0 w : World) (cs : List Chunk) (F : Nat → Prop) (W : World) (A_s1 : Option Addr) (c_s1 : Nat) (s1_1 : List Int) (A_s2 : Option Addr) (c_s2 : Nat) (s2_1 : List Int) (hM0 : Mem w0 (Fz F W :: cs) w) (h_s1 : RdS (Rep.int .u64) F W A_s1 c_s1 s1_1) (h_s2 : RdS (Rep.int .u64) F W A_s2 c_s2 s2_1) (t9001 : Bool) (hp : slices_Equal_uint64_uint64 s1_1 s2_1 = some t9001) : Calls Try.prog 50 #[.slice A_s1 s1_1.length c_s1, .slice A_s2 s2_1.length c_s2] w fun e w' => (True) ∧ e = .returned (.bool t9001) ∧ Mem w0 (Fz F W :: cs) w' := by
 unfold slices_Equal_uint64_uint64 at hp
 refine sx_calls Try.func50 rfl (n := 26) (by kernel_rfl) (l := [(0, .slice A_s1 s1_1.length c_s1), (1, .slice A_s2 s2_1.length c_s2)]) rfl (by rfl) hM0 ?_
 refine st_seq ?_
 refine st_region [oF 0] (by rfl) ?_
 refine oR [oF 0] [(0, .slice A_s1 s1_1.length c_s1), (1, .slice A_s2 s2_1.length c_s2)] [0, 1] (by kernel_rfl) ?_
 refine ops_nil ?_
 refine fin_then ?_
 refine st_seq ?_
 refine st_seq ?_
 refine st_region [oF 0, oF 1, oF 2, oF 3, oF 4] (by rfl) ?_
 refine oR [oF 0, oF 1, oF 2, oF 3, oF 4] [(10, .bool (!((s1_1.length : Int) == (s2_1.length : Int)))), (0, .slice A_s1 s1_1.length c_s1), (1, .slice A_s2 s2_1.length c_s2)] [10, 0, 1] (by kernel_rfl) ?_
 refine ops_nil ?_
 refine fin_then ?_
 refine st_if (b := !((s1_1.length : Int) == (s2_1.length : Int))) rfl (fun hc1 => ?_) (fun hc1 => ?_)
 · --
  have hp := cnd_t hc1 hp
  refine st_seq ?_
  refine st_region [oF 0] (by rfl) ?_
  refine oR [oF 0] [(4, .bool false)] [4] (by kernel_rfl) ?_
  refine ops_nil ?_
  refine fin_then ?_
  refine st_ret ?_
  refine fin_ret_then ?_
  have hq_ := Option.some.inj hp
  have hr0_ := hq_
  subst hr0_
  refine fin_ret [.tmp 4] [.bool false] rfl rfl (fun w_ hM => (.tmp rfl .nil)) (fun w_ hM => ?_)
  exact ⟨trivial, rfl, hM⟩
 · --
  have hp := cnd_f hc1 hp
  refine st_skip ?_
  refine fin_then ?_
  refine st_join1 (σ := Unit) (L := fun _ => []) (N := fun _ => Mem w0 (Fz F W :: cs)) (I := fun _ => (slices_Equal_uint64_uint64_j1 = some t9001)) ?_ ?_
  · --
   rintro _ hp
   refine st_conv (l' := []) (M' := Mem w0 (Fz F W :: cs)) rfl (fun _ h => h) ?_
   unfold slices_Equal_uint64_uint64_j1 at hp
   refine st_seq ?_
   refine st_region [oF 0] (by rfl) ?_
   refine oR [oF 0] [(4, .bool true)] [4] (by kernel_rfl) ?_
   refine ops_nil ?_
   refine fin_then ?_
   refine st_ret ?_
   have hq_ := Option.some.inj hp
   have hr0_ := hq_
   subst hr0_
   refine fin_ret [.tmp 4] [.bool true] rfl rfl (fun w_ hM => (.tmp rfl .nil)) (fun w_ hM => ?_)
   exact ⟨trivial, rfl, hM⟩
  · --
   intro HJ1
   refine st_seq ?_
   refine st_seq ?_
   refine st_region [oF 0, oF 1, oF 2] (by rfl) ?_
   refine oR [oF 0, oF 1, oF 2] [(13, vI 0), (12, vI (s1_1.length : Int)), (0, .slice A_s1 s1_1.length c_s1), (1, .slice A_s2 s2_1.length c_s2)] [13, 12, 0, 1] (by kernel_rfl) ?_
   refine ops_nil ?_
   refine fin_then ?_
   refine st_block ?_
   obtain ⟨r2, hl2, hk2⟩ := obind hp
   refine st_loopP (σ := Int) (ρ := (Bool ⊕ Unit)) (γ := Unit) hl2 () (fun s_ g_ => match s_, g_ with | i2, _ => [(0, .slice A_s1 s1_1.length c_s1), (1, .slice A_s2 s2_1.length c_s2), (12, vI (s1_1.length : Int)), (13, vI i2)]) (fun s_ g_ => match s_, g_ with | i2, _ => Mem w0 (Fz F W :: cs)) (fun s_ g_ => match s_, g_ with | i2, _ => True) trivial (look_has ⟨rfl, rfl, rfl, rfl, trivial⟩) (fun w_ hM => hM) ?_
   rintro i2 _ o2 - hs_ hd2
   have hp : (slices_Equal_uint64_uint64_l2 s1_1 s2_1) i2 = some o2 := hs_
   clear hs_
   unfold slices_Equal_uint64_uint64_l2 at hp
   refine st_conv (l' := [(0, .slice A_s1 s1_1.length c_s1), (1, .slice A_s2 s2_1.length c_s2), (12, vI (s1_1.length : Int)), (13, vI i2)]) (M' := Mem w0 (Fz F W :: cs)) rfl (fun _ h => h) ?_
   refine st_seq ?_
   refine st_region [oF 0] (by rfl) ?_
   refine oR [oF 0] [(14, .bool (decide (i2 < (s1_1.length : Int)))), (0, .slice A_s1 s1_1.length c_s1), (1, .slice A_s2 s2_1.length c_s2), (12, vI (s1_1.length : Int)), (13, vI i2)] [14, 0, 1, 12, 13] (by kernel_rfl) ?_
   refine ops_nil ?_
   refine fin_then ?_
   refine st_seq ?_
   refine st_if (b := decide (i2 < (s1_1.length : Int))) rfl (fun hc3 => ?_) (fun hc3 => ?_)
   · --
    have hp := cnd_t hc3 hp
    refine st_skip ?_
    refine fin_then ?_
    refine st_seq ?_
    refine st_block ?_
    refine st_seq ?_
    refine st_region [oF 0, oF 1] (by rfl) ?_
    refine oR [oF 0, oF 1] [(5, vI i2), (0, .slice A_s1 s1_1.length c_s1), (1, .slice A_s2 s2_1.length c_s2), (12, vI (s1_1.length : Int)), (13, vI i2)] [5, 0, 1, 12, 13] (by kernel_rfl) ?_
    refine ops_nil ?_
    refine fin_then ?_
    refine st_seq ?_
    refine st_region_draw [oT 0, oT 1, oT 2, oT 3, oT 4, oT 5, oT 6, oT 7, oT 8] (Mem w0 (Fz F W :: cs)) (by kernel_rfl) (by kernel_rfl) (by kernel_rfl) (fun _ d _ _ _ h => by cases d <;> exact h) (M' := Mem w0 (Fz F W :: cs)) (fun w_ hM => ⟨hM.drew, hM.drew.sub (.cons_cons _ (.refl _))⟩) ?_
    refine oR [oT 0, oT 1] [(17, vI i2), (16, .slice A_s1 s1_1.length c_s1), (5, vI i2), (0, .slice A_s1 s1_1.length c_s1), (1, .slice A_s2 s2_1.length c_s2), (12, vI (s1_1.length : Int)), (13, vI i2)] [17, 16, 5, 0, 1, 12, 13] (by kernel_rfl) ?_
    obtain ⟨x4, hv5, hp⟩ := obind hp
    obtain ⟨m6, hm7, hx8⟩ := idx_some hv5
    have hl11 := (List.getElem?_eq_some_iff.1 hx8).1
    obtain ⟨ad12, vs9, hA13, hr10, hq14⟩ := RdS.el h_s1 hx8
    obtain rfl := hr10
    refine ops_val (op := (Go.Op.indexAddr 63 (Go.Operand.tmp 16) (Go.Operand.tmp 17))) (d := some 18) (v := .pointer (some (ad12.add (m6 * 1)))) ⟨by kernel_rfl⟩ (run_indexA hA13 Try.underlying63 (z := 1) (by kernel_rfl) rfl rfl hm7 hl11) ?_
    refine oR [] [(18, .pointer (some (ad12.add (m6 * 1)))), (5, vI i2), (0, .slice A_s1 s1_1.length c_s1), (1, .slice A_s2 s2_1.length c_s2), (12, vI (s1_1.length : Int)), (13, vI i2)] [18, 5, 0, 1, 12, 13] (by kernel_rfl) ?_
    refine ops_load (d := some 19) (an := [.v (vU x4)]) (evs := [.load (ad12.add (m6 * 1)) (vU x4)]) (v := vU x4) ⟨by kernel_rfl⟩ (fun w_ hM => ⟨hM.elcell 0 rfl hq14 0 rfl, rfl⟩) ?_
    refine oR [oT 4, oT 5] [(21, vI i2), (20, .slice A_s2 s2_1.length c_s2), (19, vU x4), (0, .slice A_s1 s1_1.length c_s1), (1, .slice A_s2 s2_1.length c_s2), (12, vI (s1_1.length : Int)), (13, vI i2)] [21, 20, 19, 0, 1, 12, 13] (by kernel_rfl) ?_
    obtain ⟨x15, hv16, hp⟩ := obind hp
    obtain ⟨m17, hm18, hx19⟩ := idx_some hv16
    have hl22 := (List.getElem?_eq_some_iff.1 hx19).1
    obtain ⟨ad23, vs20, hA24, hr21, hq25⟩ := RdS.el h_s2 hx19
    obtain rfl := hr21
    refine ops_val (op := (Go.Op.indexAddr 63 (Go.Operand.tmp 20) (Go.Operand.tmp 21))) (d := some 22) (v := .pointer (some (ad23.add (m17 * 1)))) ⟨by kernel_rfl⟩ (run_indexA hA24 Try.underlying63 (z := 1) (by kernel_rfl) rfl rfl hm18 hl22) ?_
    refine oR [] [(22, .pointer (some (ad23.add (m17 * 1)))), (19, vU x4), (0, .slice A_s1 s1_1.length c_s1), (1, .slice A_s2 s2_1.length c_s2), (12, vI (s1_1.length : Int)), (13, vI i2)] [22, 19, 0, 1, 12, 13] (by kernel_rfl) ?_
    refine ops_load (d := some 23) (an := [.v (vU x15)]) (evs := [.load (ad23.add (m17 * 1)) (vU x15)]) (v := vU x15) ⟨by kernel_rfl⟩ (fun w_ hM => ⟨hM.elcell 0 rfl hq25 0 rfl, rfl⟩) ?_
    refine oR [oT 8] [(24, .bool (!(x4 == x15))), (0, .slice A_s1 s1_1.length c_s1), (1, .slice A_s2 s2_1.length c_s2), (12, vI (s1_1.length : Int)), (13, vI i2)] [24, 0, 1, 12, 13] (by kernel_rfl) ?_
    refine ops_nil ?_
    refine fin_then ?_
    refine st_if (b := !(x4 == x15)) rfl (fun hc26 => ?_) (fun hc26 => ?_)
    · --
     have hp := cnd_t hc26 hp
     refine st_seq ?_
     refine st_region [oF 0] (by rfl) ?_
     refine oR [oF 0] [(4, .bool false)] [4] (by kernel_rfl) ?_
     refine ops_nil ?_
     refine fin_then ?_
     refine st_ret ?_
     refine fin_ret_block ?_
     refine fin_ret_then ?_
     refine fin_ret_then ?_
     refine fin_ret_block ?_
     refine fin_ret_then ?_
     obtain hq_ := Option.some.inj hp
     subst hq_
     obtain hq_ := hd2 _ rfl
     subst hq_
     have hp : some false = some t9001 := hk2
     have hq_ := Option.some.inj hp
     have hr0_ := hq_
     subst hr0_
     refine fin_ret [.tmp 4] [.bool false] rfl rfl (fun w_ hM => (.tmp rfl .nil)) (fun w_ hM => ?_)
     exact ⟨trivial, rfl, hM⟩
    · --
     have hp := cnd_f hc26 hp
     refine st_skip ?_
     refine fin_block ?_
     refine fin_then ?_
     refine st_region [oF 0, oF 1] (by rfl) ?_
     refine oR [oF 0, oF 1] [(13, vI (IntKind.i64.wrap (i2 + 1))), (0, .slice A_s1 s1_1.length c_s1), (1, .slice A_s2 s2_1.length c_s2), (12, vI (s1_1.length : Int))] [13, 0, 1, 12] (by kernel_rfl) ?_
     refine ops_nil ?_
     exact fin_again (IntKind.i64.wrap (i2 + 1)) () (Option.some.inj hp).symm trivial (look_has ⟨rfl, rfl, rfl, rfl, trivial⟩) (fun w_ hM => hM)
   · --
    have hp := cnd_f hc3 hp
    refine st_exit ?_
    refine fin_exit_then ?_
    refine fin_exit_then ?_
    refine fin_exit ?_
    obtain hq_ := Option.some.inj hp
    subst hq_
    obtain hq_ := hd2 _ rfl
    subst hq_
    have hp : slices_Equal_uint64_uint64_j1 = some t9001 := hk2
    exact fin_join HJ1 () hp (look_has trivial) (fun w_ hM => hM)
set_option maxHeartbeats 4000000 in
set_option maxRecDepth 100000 in
theorem tourlaw1_MerkleTells_ok (w0 w : World) (cs : List Chunk) (F : Nat → Prop) (W : World) (A_l : Option Addr) (c_l : Nat) (l : List Int) (i : Int) (hM0 : Mem w0 (Fz F W :: cs) w) (h_l : RdS (Rep.int .u64) F W A_l c_l l) (t9001 : Bool) (hp : tourlaw1_MerkleTells l i = some t9001) : Calls Try.prog 8 #[.slice A_l l.length c_l, vI i] w fun e w' => ∃ (F9002 : Nat → Prop), ∃ (W9003 : World), ((Ext w0 F W F9002 W9003)) ∧ e = .returned (.bool t9001) ∧ Mem w0 (Fz F9002 W9003 :: cs) w' := by
 unfold tourlaw1_MerkleTells at hp
 refine sx_calls Try.func8 rfl (n := 87) (by kernel_rfl) (l := [(0, .slice A_l l.length c_l), (1, vI i)]) rfl (by rfl) hM0 ?_
 refine st_seq ?_
 refine st_region [oF 0] (by rfl) ?_
 refine oR [oF 0] [(0, .slice A_l l.length c_l), (1, vI i)] [0, 1] (by kernel_rfl) ?_
 refine ops_nil ?_
 refine fin_then ?_
 refine st_seq ?_
 refine st_seq ?_
 refine st_region [oF 0, oF 1] (by rfl) ?_
 obtain ⟨x1, hv2, hp⟩ := obind hp
 refine ops_callI (σ := (Nat → Prop) × World) (d := some 9) (f := 42) (args := #[]) (v := (fun x_ => match x_ with | (F3, W4) => .bool x1)) (I := (fun x_ => match x_ with | (F3, W4) => (Ext w0 F W F3 W4))) (M' := (fun x_ => match x_ with | (F3, W4) => Mem w0 (Fz F3 W4 :: cs))) ⟨by kernel_rfl⟩ (fun w_ hM hS => (tourlaw1_merkleBegun_ok w0 w_ (cs) F W  hM  x1 hv2).mono (by rintro e w' ⟨F3, W4, h5, rfl, h'⟩; have h' : Mem w0 (Fz F3 W4 :: cs) w' := h'; exact ⟨(F3, W4), h5, rfl, h', trivial⟩)) ?_
 rintro ⟨F3, W4⟩ h5
 have h_l := h_l.ext h5
 refine ops_conv (l' := [(9, .bool x1), (0, .slice A_l l.length c_l), (1, vI i)]) (M' := Mem w0 (Fz F3 W4 :: cs)) rfl (fun _ h => h) ?_
 refine oR [oF 1] [(10, .bool (!x1)), (0, .slice A_l l.length c_l), (1, vI i)] [10, 0, 1] (by kernel_rfl) ?_
 refine ops_nil ?_
 refine fin_then ?_
 refine st_if (b := !x1) rfl (fun hc6 => ?_) (fun hc6 => ?_)
 · --
  have hp := cnd_t hc6 hp
  refine st_seq ?_
  refine st_region [oF 0] (by rfl) ?_
  refine oR [oF 0] [(4, .bool false)] [4] (by kernel_rfl) ?_
  refine ops_nil ?_
  refine fin_then ?_
  refine st_ret ?_
  refine fin_ret_then ?_
  have hq_ := Option.some.inj hp
  have hr0_ := hq_
  subst hr0_
  refine fin_ret [.tmp 4] [.bool false] rfl rfl (fun w_ hM => (.tmp rfl .nil)) (fun w_ hM => ?_)
  exact ⟨F3, W4, h5, rfl, hM⟩
 · --
  have hp := cnd_f hc6 hp
  refine st_skip ?_
  refine fin_then ?_
  refine st_seq ?_
  refine st_region [oF 0, oF 1, oF 2, oF 3, oF 4, oF 5, oF 6] (by rfl) ?_
  refine oR [oF 0] [(12, .slice A_l l.length c_l), (0, .slice A_l l.length c_l), (1, vI i)] [12, 0, 1] (by kernel_rfl) ?_
  obtain ⟨x7, x8, hv9, hp⟩ := obind2 hp
  refine ops_callI (σ := (Nat → Prop) × World) (d := some 13) (f := 47) (args := #[.slice A_l l.length c_l]) (v := (fun x_ => match x_ with | (F10, W11) => .tuple #[vU x7, vI x8])) (I := (fun x_ => match x_ with | (F10, W11) => (Ext w0 F3 W4 F10 W11))) (M' := (fun x_ => match x_ with | (F10, W11) => Mem w0 (Fz F10 W11 :: cs))) ⟨by kernel_rfl⟩ (fun w_ hM hS => (merkle_Root_ok w0 w_ (cs) F3 W4 A_l c_l l hM h_l x7 x8 hv9).mono (by rintro e w' ⟨F10, W11, h12, rfl, h'⟩; have h' : Mem w0 (Fz F10 W11 :: cs) w' := h'; exact ⟨(F10, W11), h12, rfl, h', trivial⟩)) ?_
  rintro ⟨F10, W11⟩ h12
  have h_l := h_l.ext h12
  refine ops_conv (l' := [(13, .tuple #[vU x7, vI x8]), (12, .slice A_l l.length c_l), (0, .slice A_l l.length c_l), (1, vI i)]) (M' := Mem w0 (Fz F10 W11 :: cs)) rfl (fun _ h => h) ?_
  refine oR [oF 2, oF 3, oF 4, oF 5, oF 6] [(6, vI x8), (5, vU x7), (0, .slice A_l l.length c_l), (1, vI i)] [6, 5, 0, 1] (by kernel_rfl) ?_
  refine ops_nil ?_
  refine fin_then ?_
  refine st_seq ?_
  refine st_region [oF 0, oF 1, oF 2, oF 3, oF 4, oF 5, oF 6, oF 7] (by rfl) ?_
  refine oR [oF 0, oF 1] [(18, vI i), (17, .slice A_l l.length c_l), (6, vI x8), (5, vU x7), (0, .slice A_l l.length c_l), (1, vI i)] [18, 17, 6, 5, 0, 1] (by kernel_rfl) ?_
  obtain ⟨x13, x14, hv15, hp⟩ := obind2 hp
  refine ops_callI (σ := (Option Addr) × Nat × (List Value) × (Nat → Prop) × World) (d := some 19) (f := 48) (args := #[.slice A_l l.length c_l, vI i]) (v := (fun x_ => match x_ with | (A16, c17, y18, F19, W20) => .tuple #[.slice A16 x13.length c17, vI x14])) (I := (fun x_ => match x_ with | (A16, c17, y18, F19, W20) => (RepL (Rep.int .u64) F19 W20 x13 y18) ∧ (Ext w0 F10 W11 F19 W20))) (M' := (fun x_ => match x_ with | (A16, c17, y18, F19, W20) => Mem w0 (orow A16 x13.length c17 24 1 y18 :: Fz F19 W20 :: cs))) ⟨by kernel_rfl⟩ (fun w_ hM hS => (merkle_Proof_ok w0 w_ (cs) F10 W11 A_l c_l l i hM h_l x13 x14 hv15).mono (by rintro e w' ⟨A16, c17, y18, F19, W20, ⟨h21, h22⟩, rfl, h'⟩; have h' : Mem w0 (orow A16 x13.length c17 24 1 y18 :: Fz F19 W20 :: cs) w' := h'; exact ⟨(A16, c17, y18, F19, W20), ⟨h21, h22⟩, rfl, h', trivial⟩)) ?_
  rintro ⟨A16, c17, y18, F19, W20⟩ ⟨h21, h22⟩
  have h_l := h_l.ext h22
  refine ops_conv (l' := [(19, .tuple #[.slice A16 x13.length c17, vI x14]), (18, vI i), (17, .slice A_l l.length c_l), (6, vI x8), (5, vU x7), (0, .slice A_l l.length c_l), (1, vI i)]) (M' := Mem w0 (orow A16 x13.length c17 24 1 y18 :: Fz F19 W20 :: cs)) rfl (fun _ h => h) ?_
  refine oR [oF 3, oF 4, oF 5, oF 6, oF 7] [(8, vI x14), (7, .slice A16 x13.length c17), (6, vI x8), (5, vU x7), (0, .slice A_l l.length c_l), (1, vI i)] [8, 7, 6, 5, 0, 1] (by kernel_rfl) ?_
  refine ops_nil ?_
  refine fin_then ?_
  refine st_seq ?_
  refine st_block ?_
  refine st_seq ?_
  refine st_region [oF 0, oF 1, oF 2, oF 3] (by rfl) ?_
  refine oR [oF 0, oF 1, oF 2, oF 3] [(22, .bool (decide (4096 < (l.length : Int)))), (8, vI x14), (7, .slice A16 x13.length c17), (6, vI x8), (5, vU x7), (0, .slice A_l l.length c_l), (1, vI i)] [22, 8, 7, 6, 5, 0, 1] (by kernel_rfl) ?_
  refine ops_nil ?_
  refine fin_then ?_
  refine st_if (b := decide (4096 < (l.length : Int))) rfl (fun hc23 => ?_) (fun hc23 => ?_)
  · --
   have hp := cnd_t hc23 hp
   refine st_join1 (σ := Bool) (L := fun x_ => match x_ with | t24 => [(4, .bool t24)]) (N := fun x_ => match x_ with | t24 => Mem w0 (Fz F19 W20 :: cs)) (I := fun x_ => match x_ with | t24 => (tourlaw1_MerkleTells_j1 t24 = some t9001)) ?_ ?_
   · --
    rintro t24 hp
    refine st_conv (l' := [(4, .bool t24)]) (M' := Mem w0 (Fz F19 W20 :: cs)) rfl (fun _ h => h) ?_
    unfold tourlaw1_MerkleTells_j1 at hp
    refine st_ret ?_
    refine fin_ret_block ?_
    refine fin_ret_then ?_
    have hq_ := Option.some.inj hp
    have hr0_ := hq_
    subst hr0_
    refine fin_ret [.tmp 4] [.bool t24] rfl rfl (fun w_ hM => (.tmp rfl .nil)) (fun w_ hM => ?_)
    exact ⟨F19, W20, ((h5.trans h12).trans h22), rfl, hM⟩
   · --
    intro HJ1
    refine st_seq ?_
    refine st_region [oF 0, oF 1, oF 2, oF 3, oF 4, oF 5, oF 6, oF 7, oF 8, oF 9, oF 10, oF 11, oF 12, oF 13, oF 14, oF 15, oF 16] (by rfl) ?_
    refine oR [oF 0, oF 1, oF 2] [(28, .bool (x7 == 0)), (8, vI x14), (7, .slice A16 x13.length c17), (6, vI x8)] [28, 8, 7, 6] (by kernel_rfl) ?_
    refine ops_bool (t := (x7 == 0)) (l1 := [(28, .bool true), (8, vI x14), (7, .slice A16 x13.length c17), (6, vI x8)]) (l2 := [(28, .bool false), (8, vI x14), (7, .slice A16 x13.length c17), (6, vI x8)]) (fun h => by rw [h]) (fun h => by rw [h]) (fun hc25 => ?_) (fun hc25 => ?_)
    · --
     have hp := cnd_t hc25 hp
     refine oR [oF 3, oF 4, oF 5, oF 6] [(32, .bool (x8 == 2)), (8, vI x14), (7, .slice A16 x13.length c17), (6, vI x8)] [32, 8, 7, 6] (by kernel_rfl) ?_
     refine ops_bool (t := (x8 == 2)) (l1 := [(32, .bool true), (8, vI x14), (7, .slice A16 x13.length c17), (6, vI x8)]) (l2 := [(32, .bool false), (8, vI x14), (7, .slice A16 x13.length c17), (6, vI x8)]) (fun h => by rw [h]) (fun h => by rw [h]) (fun hc26 => ?_) (fun hc26 => ?_)
     · --
      have hp := cnd_t hc26 hp
      refine oR [oF 7, oF 8, oF 9, oF 10, oF 11] [(37, .bool ((x13.length : Int) == 0)), (8, vI x14), (6, vI x8)] [37, 8, 6] (by kernel_rfl) ?_
      refine ops_bool (t := ((x13.length : Int) == 0)) (l1 := [(37, .bool true), (8, vI x14), (6, vI x8)]) (l2 := [(37, .bool false), (8, vI x14), (6, vI x8)]) (fun h => by rw [h]) (fun h => by rw [h]) (fun hc27 => ?_) (fun hc27 => ?_)
      · --
       have hp := cnd_t hc27 hp
       refine oR [oF 12, oF 13, oF 14, oF 15, oF 16] [(4, .bool (x14 == x8))] [4] (by kernel_rfl) ?_
       refine ops_nil ?_
       exact fin_join HJ1 (x14 == x8) hp (look_has ⟨rfl, trivial⟩) (fun w_ hM => hM.pick 2 [1] (by kernel_rfl) (by decide) rfl)
      · --
       have hp := cnd_f hc27 hp
       refine oR [oF 12, oF 13, oF 14, oF 15, oF 16] [(4, .bool false)] [4] (by kernel_rfl) ?_
       refine ops_nil ?_
       exact fin_join HJ1 false hp (look_has ⟨rfl, trivial⟩) (fun w_ hM => hM.pick 2 [1] (by kernel_rfl) (by decide) rfl)
     · --
      have hp := cnd_f hc26 hp
      refine oR [oF 7, oF 8, oF 9, oF 10, oF 11, oF 12, oF 13, oF 14, oF 15, oF 16] [(4, .bool false)] [4] (by kernel_rfl) ?_
      refine ops_nil ?_
      exact fin_join HJ1 false hp (look_has ⟨rfl, trivial⟩) (fun w_ hM => hM.pick 2 [1] (by kernel_rfl) (by decide) rfl)
    · --
     have hp := cnd_f hc25 hp
     refine oR [oF 3, oF 4, oF 5, oF 6, oF 7, oF 8, oF 9, oF 10, oF 11, oF 12, oF 13, oF 14, oF 15, oF 16] [(4, .bool false)] [4] (by kernel_rfl) ?_
     refine ops_nil ?_
     exact fin_join HJ1 false hp (look_has ⟨rfl, trivial⟩) (fun w_ hM => hM.pick 2 [1] (by kernel_rfl) (by decide) rfl)
  · --
   have hp := cnd_f hc23 hp
   refine st_seq ?_
   refine st_region [oF 0, oF 1, oF 2, oF 3, oF 4, oF 5, oF 6, oF 7, oF 8] (by rfl) ?_
   refine oR [oF 0, oF 1, oF 2] [(45, .bool (decide (i < 0))), (8, vI x14), (7, .slice A16 x13.length c17), (6, vI x8), (5, vU x7), (0, .slice A_l l.length c_l), (1, vI i)] [45, 8, 7, 6, 5, 0, 1] (by kernel_rfl) ?_
   refine ops_bool (t := decide (i < 0)) (l1 := [(45, .bool true), (8, vI x14), (7, .slice A16 x13.length c17), (6, vI x8), (5, vU x7), (0, .slice A_l l.length c_l), (1, vI i)]) (l2 := [(45, .bool false), (8, vI x14), (7, .slice A16 x13.length c17), (6, vI x8), (5, vU x7), (0, .slice A_l l.length c_l), (1, vI i)]) (fun h => by rw [h]) (fun h => by rw [h]) (fun hc28 => ?_) (fun hc28 => ?_)
   · --
    have hp := cnd_t hc28 hp
    refine oR [oF 3, oF 4, oF 5, oF 6, oF 7, oF 8] [(42, .bool true), (8, vI x14), (7, .slice A16 x13.length c17), (6, vI x8), (5, vU x7), (0, .slice A_l l.length c_l), (1, vI i)] [42, 8, 7, 6, 5, 0, 1] (by kernel_rfl) ?_
    refine ops_nil ?_
    refine fin_then ?_
    refine st_true rfl ?_
    refine st_join1 (σ := Bool) (L := fun x_ => match x_ with | t29 => [(4, .bool t29)]) (N := fun x_ => match x_ with | t29 => Mem w0 (Fz F19 W20 :: cs)) (I := fun x_ => match x_ with | t29 => (tourlaw1_MerkleTells_j2 t29 = some t9001)) ?_ ?_
    · --
     rintro t29 hp
     refine st_conv (l' := [(4, .bool t29)]) (M' := Mem w0 (Fz F19 W20 :: cs)) rfl (fun _ h => h) ?_
     unfold tourlaw1_MerkleTells_j2 at hp
     refine st_ret ?_
     refine fin_ret_block ?_
     refine fin_ret_then ?_
     have hq_ := Option.some.inj hp
     have hr0_ := hq_
     subst hr0_
     refine fin_ret [.tmp 4] [.bool t29] rfl rfl (fun w_ hM => (.tmp rfl .nil)) (fun w_ hM => ?_)
     exact ⟨F19, W20, ((h5.trans h12).trans h22), rfl, hM⟩
    · --
     intro HJ2
     refine st_seq ?_
     refine st_region [oF 0, oF 1, oF 2, oF 3, oF 4, oF 5, oF 6, oF 7, oF 8, oF 9, oF 10, oF 11, oF 12, oF 13, oF 14, oF 15, oF 16, oF 17] (by rfl) ?_
     refine oR [oF 0, oF 1] [(52, .slice A_l l.length c_l), (51, vU x7), (8, vI x14), (7, .slice A16 x13.length c17), (6, vI x8)] [52, 51, 8, 7, 6] (by kernel_rfl) ?_
     obtain ⟨x30, hv31, hp⟩ := obind hp
     refine ops_callI (σ := Unit) (d := some 53) (f := 49) (args := #[.slice A_l l.length c_l]) (v := (fun _ => vU x30)) (I := (fun _ => True)) (M' := (fun _ => Mem w0 (orow A16 x13.length c17 24 1 y18 :: Fz F19 W20 :: cs))) ⟨by kernel_rfl⟩ (fun w_ hM hS => (tourref1_Top_ok w0 w_ (orow A16 x13.length c17 24 1 y18 :: cs) F19 W20 A_l c_l l (hM.pick 2 [1, 0] (by kernel_rfl) (by decide) rfl) h_l x30 hv31).mono (by rintro e w' ⟨-, rfl, h'⟩; have h' : Mem w0 (orow A16 x13.length c17 24 1 y18 :: Fz F19 W20 :: cs) w' := (h'.pick 2 [1, 0] (by kernel_rfl) (by decide) rfl); exact ⟨(), trivial, rfl, h', trivial⟩)) ?_
     rintro _ -
     refine ops_conv (l' := [(53, vU x30), (52, .slice A_l l.length c_l), (51, vU x7), (8, vI x14), (7, .slice A16 x13.length c17), (6, vI x8)]) (M' := Mem w0 (orow A16 x13.length c17 24 1 y18 :: Fz F19 W20 :: cs)) rfl (fun _ h => h) ?_
     refine oR [oF 3, oF 4] [(55, .bool (x7 == x30)), (8, vI x14), (7, .slice A16 x13.length c17), (6, vI x8)] [55, 8, 7, 6] (by kernel_rfl) ?_
     refine ops_bool (t := (x7 == x30)) (l1 := [(55, .bool true), (8, vI x14), (7, .slice A16 x13.length c17), (6, vI x8)]) (l2 := [(55, .bool false), (8, vI x14), (7, .slice A16 x13.length c17), (6, vI x8)]) (fun h => by rw [h]) (fun h => by rw [h]) (fun hc32 => ?_) (fun hc32 => ?_)
     · --
      have hp := cnd_t hc32 hp
      refine oR [oF 5, oF 6, oF 7, oF 8] [(59, .bool (x8 == 0)), (8, vI x14), (7, .slice A16 x13.length c17)] [59, 8, 7] (by kernel_rfl) ?_
      refine ops_bool (t := (x8 == 0)) (l1 := [(59, .bool true), (8, vI x14), (7, .slice A16 x13.length c17)]) (l2 := [(59, .bool false), (8, vI x14), (7, .slice A16 x13.length c17)]) (fun h => by rw [h]) (fun h => by rw [h]) (fun hc33 => ?_) (fun hc33 => ?_)
      · --
       have hp := cnd_t hc33 hp
       refine oR [oF 9, oF 10, oF 11, oF 12, oF 13] [(64, .bool ((x13.length : Int) == 0)), (8, vI x14)] [64, 8] (by kernel_rfl) ?_
       refine ops_bool (t := ((x13.length : Int) == 0)) (l1 := [(64, .bool true), (8, vI x14)]) (l2 := [(64, .bool false), (8, vI x14)]) (fun h => by rw [h]) (fun h => by rw [h]) (fun hc34 => ?_) (fun hc34 => ?_)
       · --
        have hp := cnd_t hc34 hp
        refine oR [oF 14, oF 15, oF 16, oF 17] [(4, .bool (x14 == 4))] [4] (by kernel_rfl) ?_
        refine ops_nil ?_
        exact fin_join HJ2 (x14 == 4) hp (look_has ⟨rfl, trivial⟩) (fun w_ hM => hM.pick 2 [1] (by kernel_rfl) (by decide) rfl)
       · --
        have hp := cnd_f hc34 hp
        refine oR [oF 14, oF 15, oF 16, oF 17] [(4, .bool false)] [4] (by kernel_rfl) ?_
        refine ops_nil ?_
        exact fin_join HJ2 false hp (look_has ⟨rfl, trivial⟩) (fun w_ hM => hM.pick 2 [1] (by kernel_rfl) (by decide) rfl)
      · --
       have hp := cnd_f hc33 hp
       refine oR [oF 9, oF 10, oF 11, oF 12, oF 13, oF 14, oF 15, oF 16, oF 17] [(4, .bool false)] [4] (by kernel_rfl) ?_
       refine ops_nil ?_
       exact fin_join HJ2 false hp (look_has ⟨rfl, trivial⟩) (fun w_ hM => hM.pick 2 [1] (by kernel_rfl) (by decide) rfl)
     · --
      have hp := cnd_f hc32 hp
      refine oR [oF 5, oF 6, oF 7, oF 8, oF 9, oF 10, oF 11, oF 12, oF 13, oF 14, oF 15, oF 16, oF 17] [(4, .bool false)] [4] (by kernel_rfl) ?_
      refine ops_nil ?_
      exact fin_join HJ2 false hp (look_has ⟨rfl, trivial⟩) (fun w_ hM => hM.pick 2 [1] (by kernel_rfl) (by decide) rfl)
   · --
    have hp := cnd_f hc28 hp
    refine oR [oF 3, oF 4, oF 5, oF 6, oF 7, oF 8] [(42, .bool (decide ((l.length : Int) ≤ i))), (8, vI x14), (7, .slice A16 x13.length c17), (6, vI x8), (5, vU x7), (0, .slice A_l l.length c_l), (1, vI i)] [42, 8, 7, 6, 5, 0, 1] (by kernel_rfl) ?_
    refine ops_nil ?_
    refine fin_then ?_
    refine st_if (b := decide ((l.length : Int) ≤ i)) rfl (fun hc35 => ?_) (fun hc35 => ?_)
    · --
     have hp := cnd_t hc35 hp
     refine st_join1 (σ := Bool) (L := fun x_ => match x_ with | t36 => [(4, .bool t36)]) (N := fun x_ => match x_ with | t36 => Mem w0 (Fz F19 W20 :: cs)) (I := fun x_ => match x_ with | t36 => (tourlaw1_MerkleTells_j3 t36 = some t9001)) ?_ ?_
     · --
      rintro t36 hp
      refine st_conv (l' := [(4, .bool t36)]) (M' := Mem w0 (Fz F19 W20 :: cs)) rfl (fun _ h => h) ?_
      unfold tourlaw1_MerkleTells_j3 at hp
      refine st_ret ?_
      refine fin_ret_block ?_
      refine fin_ret_then ?_
      have hq_ := Option.some.inj hp
      have hr0_ := hq_
      subst hr0_
      refine fin_ret [.tmp 4] [.bool t36] rfl rfl (fun w_ hM => (.tmp rfl .nil)) (fun w_ hM => ?_)
      exact ⟨F19, W20, ((h5.trans h12).trans h22), rfl, hM⟩
     · --
      intro HJ3
      refine st_seq ?_
      refine st_region [oF 0, oF 1, oF 2, oF 3, oF 4, oF 5, oF 6, oF 7, oF 8, oF 9, oF 10, oF 11, oF 12, oF 13, oF 14, oF 15, oF 16, oF 17] (by rfl) ?_
      refine oR [oF 0, oF 1] [(52, .slice A_l l.length c_l), (51, vU x7), (8, vI x14), (7, .slice A16 x13.length c17), (6, vI x8)] [52, 51, 8, 7, 6] (by kernel_rfl) ?_
      obtain ⟨x37, hv38, hp⟩ := obind hp
      refine ops_callI (σ := Unit) (d := some 53) (f := 49) (args := #[.slice A_l l.length c_l]) (v := (fun _ => vU x37)) (I := (fun _ => True)) (M' := (fun _ => Mem w0 (orow A16 x13.length c17 24 1 y18 :: Fz F19 W20 :: cs))) ⟨by kernel_rfl⟩ (fun w_ hM hS => (tourref1_Top_ok w0 w_ (orow A16 x13.length c17 24 1 y18 :: cs) F19 W20 A_l c_l l (hM.pick 2 [1, 0] (by kernel_rfl) (by decide) rfl) h_l x37 hv38).mono (by rintro e w' ⟨-, rfl, h'⟩; have h' : Mem w0 (orow A16 x13.length c17 24 1 y18 :: Fz F19 W20 :: cs) w' := (h'.pick 2 [1, 0] (by kernel_rfl) (by decide) rfl); exact ⟨(), trivial, rfl, h', trivial⟩)) ?_
      rintro _ -
      refine ops_conv (l' := [(53, vU x37), (52, .slice A_l l.length c_l), (51, vU x7), (8, vI x14), (7, .slice A16 x13.length c17), (6, vI x8)]) (M' := Mem w0 (orow A16 x13.length c17 24 1 y18 :: Fz F19 W20 :: cs)) rfl (fun _ h => h) ?_
      refine oR [oF 3, oF 4] [(55, .bool (x7 == x37)), (8, vI x14), (7, .slice A16 x13.length c17), (6, vI x8)] [55, 8, 7, 6] (by kernel_rfl) ?_
      refine ops_bool (t := (x7 == x37)) (l1 := [(55, .bool true), (8, vI x14), (7, .slice A16 x13.length c17), (6, vI x8)]) (l2 := [(55, .bool false), (8, vI x14), (7, .slice A16 x13.length c17), (6, vI x8)]) (fun h => by rw [h]) (fun h => by rw [h]) (fun hc39 => ?_) (fun hc39 => ?_)
      · --
       have hp := cnd_t hc39 hp
       refine oR [oF 5, oF 6, oF 7, oF 8] [(59, .bool (x8 == 0)), (8, vI x14), (7, .slice A16 x13.length c17)] [59, 8, 7] (by kernel_rfl) ?_
       refine ops_bool (t := (x8 == 0)) (l1 := [(59, .bool true), (8, vI x14), (7, .slice A16 x13.length c17)]) (l2 := [(59, .bool false), (8, vI x14), (7, .slice A16 x13.length c17)]) (fun h => by rw [h]) (fun h => by rw [h]) (fun hc40 => ?_) (fun hc40 => ?_)
       · --
        have hp := cnd_t hc40 hp
        refine oR [oF 9, oF 10, oF 11, oF 12, oF 13] [(64, .bool ((x13.length : Int) == 0)), (8, vI x14)] [64, 8] (by kernel_rfl) ?_
        refine ops_bool (t := ((x13.length : Int) == 0)) (l1 := [(64, .bool true), (8, vI x14)]) (l2 := [(64, .bool false), (8, vI x14)]) (fun h => by rw [h]) (fun h => by rw [h]) (fun hc41 => ?_) (fun hc41 => ?_)
        · --
         have hp := cnd_t hc41 hp
         refine oR [oF 14, oF 15, oF 16, oF 17] [(4, .bool (x14 == 4))] [4] (by kernel_rfl) ?_
         refine ops_nil ?_
         exact fin_join HJ3 (x14 == 4) hp (look_has ⟨rfl, trivial⟩) (fun w_ hM => hM.pick 2 [1] (by kernel_rfl) (by decide) rfl)
        · --
         have hp := cnd_f hc41 hp
         refine oR [oF 14, oF 15, oF 16, oF 17] [(4, .bool false)] [4] (by kernel_rfl) ?_
         refine ops_nil ?_
         exact fin_join HJ3 false hp (look_has ⟨rfl, trivial⟩) (fun w_ hM => hM.pick 2 [1] (by kernel_rfl) (by decide) rfl)
       · --
        have hp := cnd_f hc40 hp
        refine oR [oF 9, oF 10, oF 11, oF 12, oF 13, oF 14, oF 15, oF 16, oF 17] [(4, .bool false)] [4] (by kernel_rfl) ?_
        refine ops_nil ?_
        exact fin_join HJ3 false hp (look_has ⟨rfl, trivial⟩) (fun w_ hM => hM.pick 2 [1] (by kernel_rfl) (by decide) rfl)
      · --
       have hp := cnd_f hc39 hp
       refine oR [oF 5, oF 6, oF 7, oF 8, oF 9, oF 10, oF 11, oF 12, oF 13, oF 14, oF 15, oF 16, oF 17] [(4, .bool false)] [4] (by kernel_rfl) ?_
       refine ops_nil ?_
       exact fin_join HJ3 false hp (look_has ⟨rfl, trivial⟩) (fun w_ hM => hM.pick 2 [1] (by kernel_rfl) (by decide) rfl)
    · --
     have hp := cnd_f hc35 hp
     refine st_skip ?_
     refine fin_block ?_
     refine fin_then ?_
     refine st_join1 (σ := Bool) (L := fun x_ => match x_ with | t42 => [(4, .bool t42)]) (N := fun x_ => match x_ with | t42 => Mem w0 (Fz F19 W20 :: cs)) (I := fun x_ => match x_ with | t42 => (tourlaw1_MerkleTells_j4 t42 = some t9001)) ?_ ?_
     · --
      rintro t42 hp
      refine st_conv (l' := [(4, .bool t42)]) (M' := Mem w0 (Fz F19 W20 :: cs)) rfl (fun _ h => h) ?_
      unfold tourlaw1_MerkleTells_j4 at hp
      refine st_ret ?_
      have hq_ := Option.some.inj hp
      have hr0_ := hq_
      subst hr0_
      refine fin_ret [.tmp 4] [.bool t42] rfl rfl (fun w_ hM => (.tmp rfl .nil)) (fun w_ hM => ?_)
      exact ⟨F19, W20, ((h5.trans h12).trans h22), rfl, hM⟩
     · --
      intro HJ4
      refine st_seq ?_
      refine st_region [oF 0, oF 1, oF 2, oF 3, oF 4, oF 5, oF 6, oF 7, oF 8, oF 9, oF 10, oF 11, oF 12, oF 13, oF 14, oF 15, oF 16, oF 17, oF 18, oF 19] (by rfl) ?_
      refine oR [oF 0, oF 1] [(69, .slice A_l l.length c_l), (68, vU x7), (8, vI x14), (7, .slice A16 x13.length c17), (6, vI x8), (0, .slice A_l l.length c_l), (1, vI i)] [69, 68, 8, 7, 6, 0, 1] (by kernel_rfl) ?_
      obtain ⟨x43, hv44, hp⟩ := obind hp
      refine ops_callI (σ := Unit) (d := some 70) (f := 49) (args := #[.slice A_l l.length c_l]) (v := (fun _ => vU x43)) (I := (fun _ => True)) (M' := (fun _ => Mem w0 (orow A16 x13.length c17 24 1 y18 :: Fz F19 W20 :: cs))) ⟨by kernel_rfl⟩ (fun w_ hM hS => (tourref1_Top_ok w0 w_ (orow A16 x13.length c17 24 1 y18 :: cs) F19 W20 A_l c_l l (hM.pick 2 [1, 0] (by kernel_rfl) (by decide) rfl) h_l x43 hv44).mono (by rintro e w' ⟨-, rfl, h'⟩; have h' : Mem w0 (orow A16 x13.length c17 24 1 y18 :: Fz F19 W20 :: cs) w' := (h'.pick 2 [1, 0] (by kernel_rfl) (by decide) rfl); exact ⟨(), trivial, rfl, h', trivial⟩)) ?_
      rintro _ -
      refine ops_conv (l' := [(70, vU x43), (69, .slice A_l l.length c_l), (68, vU x7), (8, vI x14), (7, .slice A16 x13.length c17), (6, vI x8), (0, .slice A_l l.length c_l), (1, vI i)]) (M' := Mem w0 (orow A16 x13.length c17 24 1 y18 :: Fz F19 W20 :: cs)) rfl (fun _ h => h) ?_
      refine oR [oF 3, oF 4] [(72, .bool (x7 == x43)), (8, vI x14), (7, .slice A16 x13.length c17), (6, vI x8), (0, .slice A_l l.length c_l), (1, vI i)] [72, 8, 7, 6, 0, 1] (by kernel_rfl) ?_
      refine ops_bool (t := (x7 == x43)) (l1 := [(72, .bool true), (8, vI x14), (7, .slice A16 x13.length c17), (6, vI x8), (0, .slice A_l l.length c_l), (1, vI i)]) (l2 := [(72, .bool false), (8, vI x14), (7, .slice A16 x13.length c17), (6, vI x8), (0, .slice A_l l.length c_l), (1, vI i)]) (fun h => by rw [h]) (fun h => by rw [h]) (fun hc45 => ?_) (fun hc45 => ?_)
      · --
       have hp := cnd_t hc45 hp
       refine oR [oF 5, oF 6, oF 7, oF 8] [(76, .bool (x8 == 0)), (8, vI x14), (7, .slice A16 x13.length c17), (0, .slice A_l l.length c_l), (1, vI i)] [76, 8, 7, 0, 1] (by kernel_rfl) ?_
       refine ops_bool (t := (x8 == 0)) (l1 := [(76, .bool true), (8, vI x14), (7, .slice A16 x13.length c17), (0, .slice A_l l.length c_l), (1, vI i)]) (l2 := [(76, .bool false), (8, vI x14), (7, .slice A16 x13.length c17), (0, .slice A_l l.length c_l), (1, vI i)]) (fun h => by rw [h]) (fun h => by rw [h]) (fun hc46 => ?_) (fun hc46 => ?_)
       · --
        have hp := cnd_t hc46 hp
        refine oR [oF 9, oF 10, oF 11, oF 12] [(80, .bool (x14 == 0)), (7, .slice A16 x13.length c17), (0, .slice A_l l.length c_l), (1, vI i)] [80, 7, 0, 1] (by kernel_rfl) ?_
        refine ops_bool (t := (x14 == 0)) (l1 := [(80, .bool true), (7, .slice A16 x13.length c17), (0, .slice A_l l.length c_l), (1, vI i)]) (l2 := [(80, .bool false), (7, .slice A16 x13.length c17), (0, .slice A_l l.length c_l), (1, vI i)]) (fun h => by rw [h]) (fun h => by rw [h]) (fun hc47 => ?_) (fun hc47 => ?_)
        · --
         have hp := cnd_t hc47 hp
         refine oR [oF 13, oF 14, oF 15] [(83, vI i), (82, .slice A_l l.length c_l), (81, .slice A16 x13.length c17), (80, .bool true)] [83, 82, 81, 80] (by kernel_rfl) ?_
         obtain ⟨x48, hv49, hp⟩ := obind hp
         refine ops_callI (σ := (Option Addr) × Nat × (List Value)) (d := some 84) (f := 51) (args := #[.slice A_l l.length c_l, vI i]) (v := (fun x_ => match x_ with | (A50, c51, y52) => .slice A50 x48.length c51)) (I := (fun x_ => match x_ with | (A50, c51, y52) => (RepL (Rep.int .u64) F19 W20 x48 y52))) (M' := (fun x_ => match x_ with | (A50, c51, y52) => Mem w0 (orow A50 x48.length c51 24 1 y52 :: orow A16 x13.length c17 24 1 y18 :: Fz F19 W20 :: cs))) ⟨by kernel_rfl⟩ (fun w_ hM hS => (tourref1_Proved_ok w0 w_ (orow A16 x13.length c17 24 1 y18 :: cs) F19 W20 A_l c_l l i (hM.pick 2 [1, 0] (by kernel_rfl) (by decide) rfl) h_l x48 hv49).mono (by rintro e w' ⟨A50, c51, y52, h53, rfl, h'⟩; have h' : Mem w0 (orow A50 x48.length c51 24 1 y52 :: orow A16 x13.length c17 24 1 y18 :: Fz F19 W20 :: cs) w' := (h'.pick 3 [0, 2, 1] (by kernel_rfl) (by decide) rfl); exact ⟨(A50, c51, y52), h53, rfl, h', trivial⟩)) ?_
         rintro ⟨A50, c51, y52⟩ h53
         refine ops_conv (l' := [(84, .slice A50 x48.length c51), (83, vI i), (82, .slice A_l l.length c_l), (81, .slice A16 x13.length c17), (80, .bool true)]) (M' := Mem w0 (orow A50 x48.length c51 24 1 y52 :: orow A16 x13.length c17 24 1 y18 :: Fz F19 W20 :: cs)) rfl (fun _ h => h) ?_
         refine oR [] [(84, .slice A50 x48.length c51), (81, .slice A16 x13.length c17), (80, .bool true)] [84, 81, 80] (by kernel_rfl) ?_
         obtain ⟨x54, hv55, hp⟩ := obind hp
         refine ops_callI (σ := Unit) (d := some 85) (f := 50) (args := #[.slice A16 x13.length c17, .slice A50 x48.length c51]) (v := (fun _ => .bool x54)) (I := (fun _ => True)) (M' := (fun _ => Mem w0 (orow A50 x48.length c51 24 1 y52 :: orow A16 x13.length c17 24 1 y18 :: Fz F19 W20 :: cs))) ⟨by kernel_rfl⟩ (fun w_ hM hS => (slices_Equal_uint64_uint64_ok w_ w_ [] (fun b => b < w_.heap.size) w_ A16 c17 x13 A50 c51 x48 (Mem.fz0 w_) (hM.ordS 1 2 rfl rfl h21 rfl rfl) (hM.ordS 0 2 rfl rfl h53 rfl rfl) x54 hv55).mono (by rintro e w' ⟨-, rfl, h'⟩; have h' : Mem w_ [] w' := h'.pick 1 [] (by kernel_rfl) (by decide) rfl; exact ⟨(), trivial, rfl, hM.join h' rfl, trivial⟩)) ?_
         rintro _ -
         refine ops_conv (l' := [(85, .bool x54), (84, .slice A50 x48.length c51), (81, .slice A16 x13.length c17), (80, .bool true)]) (M' := Mem w0 (orow A50 x48.length c51 24 1 y52 :: orow A16 x13.length c17 24 1 y18 :: Fz F19 W20 :: cs)) rfl (fun _ h => h) ?_
         refine oR [oF 18, oF 19] [(4, .bool x54)] [4] (by kernel_rfl) ?_
         refine ops_nil ?_
         exact fin_join HJ4 x54 hp (look_has ⟨rfl, trivial⟩) (fun w_ hM => hM.pick 3 [2] (by kernel_rfl) (by decide) rfl)
        · --
         have hp := cnd_f hc47 hp
         refine oR [oF 13, oF 14, oF 15, oF 16, oF 17, oF 18, oF 19] [(4, .bool false)] [4] (by kernel_rfl) ?_
         refine ops_nil ?_
         exact fin_join HJ4 false hp (look_has ⟨rfl, trivial⟩) (fun w_ hM => hM.pick 2 [1] (by kernel_rfl) (by decide) rfl)
       · --
        have hp := cnd_f hc46 hp
        refine oR [oF 9, oF 10, oF 11, oF 12, oF 13, oF 14, oF 15, oF 16, oF 17, oF 18, oF 19] [(4, .bool false)] [4] (by kernel_rfl) ?_
        refine ops_nil ?_
        exact fin_join HJ4 false hp (look_has ⟨rfl, trivial⟩) (fun w_ hM => hM.pick 2 [1] (by kernel_rfl) (by decide) rfl)
      · --
       have hp := cnd_f hc45 hp
       refine oR [oF 5, oF 6, oF 7, oF 8, oF 9, oF 10, oF 11, oF 12, oF 13, oF 14, oF 15, oF 16, oF 17, oF 18, oF 19] [(4, .bool false)] [4] (by kernel_rfl) ?_
       refine ops_nil ?_
       exact fin_join HJ4 false hp (look_has ⟨rfl, trivial⟩) (fun w_ hM => hM.pick 2 [1] (by kernel_rfl) (by decide) rfl)
end Go.Proofs.Ytfihfbkjomploaa.X
