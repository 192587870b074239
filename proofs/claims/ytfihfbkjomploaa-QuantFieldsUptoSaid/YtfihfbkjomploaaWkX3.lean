/- The Go functions come to what the plain functions tell. No condition. -/
import Derived.Test.YtfihfbkjomploaaProg
import Derived.Test.YtfihfbkjomploaaFnX
import Derived.Test.YtfihfbkjomploaaWkX2
namespace Go.Proofs.Ytfihfbkjomploaa.X
open Go Go.RowKit Go.Proofs.Ytfihfbkjomploaa.Sx
set_option linter.unusedVariables false
set_option maxHeartbeats 4000000 in
set_option maxRecDepth 100000 in
theorem slices_Equal_byte_byte_ok (w0 w : World) (cs : List Chunk) (F : Nat → Prop) (W : World) (A_s1 : Option Addr) (c_s1 : Nat) (s1_1 : List Int) (A_s2 : Option Addr) (c_s2 : Nat) (s2_1 : List Int) (hM0 : Mem w0 (Fz F W :: cs) w) (h_s1 : RdS (Rep.int .u8) F W A_s1 c_s1 s1_1) (h_s2 : RdS (Rep.int .u8) F W A_s2 c_s2 s2_1) (t9001 : Bool) (hp : slices_Equal_byte_byte s1_1 s2_1 = some t9001) : Calls Try.prog 32 #[.slice A_s1 s1_1.length c_s1, .slice A_s2 s2_1.length c_s2] w fun e w' => (True) ∧ e = .returned (.bool t9001) ∧ Mem w0 (Fz F W :: cs) w' := by
 unfold slices_Equal_byte_byte at hp
 refine sx_calls Try.func32 rfl (n := 26) (by kernel_rfl) (l := [(0, .slice A_s1 s1_1.length c_s1), (1, .slice A_s2 s2_1.length c_s2)]) rfl (by rfl) hM0 ?_
 refine st_seq ?_
 refine st_region [oF 0] (by rfl) ?_
 refine oR [oF 0] [(0, .slice A_s1 s1_1.length c_s1), (1, .slice A_s2 s2_1.length c_s2)] [0, 1] (by kernel_rfl) ?_
 refine ops_nil ?_
 refine fin_then ?_
 refine st_seq ?_
 refine st_seq ?_
 refine st_region [oF 0, oF 1, oF 2, oF 3, oF 4] (by rfl) ?_
 refine oR [oF 0, oF 1, oF 2, oF 3, oF 4] [(10, .bool (!((s1_1.length : Int) == (s2_1.length : Int)))), (0, .slice A_s1 s1_1.length c_s1), (1, .slice A_s2 s2_1.length c_s2)] [10, 0, 1] (by kernel_rfl) ?_
 refine ops_nil ?_
 refine fin_then ?_
 refine st_if (b := !((s1_1.length : Int) == (s2_1.length : Int))) rfl (fun hc1 => ?_) (fun hc1 => ?_)
 · --
  have hp := cnd_t hc1 hp
  refine st_seq ?_
  refine st_region [oF 0] (by rfl) ?_
  refine oR [oF 0] [(4, .bool false)] [4] (by kernel_rfl) ?_
  refine ops_nil ?_
  refine fin_then ?_
  refine st_ret ?_
  refine fin_ret_then ?_
  have hq_ := Option.some.inj hp
  have hr0_ := hq_
  subst hr0_
  refine fin_ret [.tmp 4] [.bool false] rfl rfl (fun w_ hM => (.tmp rfl .nil)) (fun w_ hM => ?_)
  exact ⟨trivial, rfl, hM⟩
 · --
  have hp := cnd_f hc1 hp
  refine st_skip ?_
  refine fin_then ?_
  refine st_join1 (σ := Unit) (L := fun _ => []) (N := fun _ => Mem w0 (Fz F W :: cs)) (I := fun _ => (slices_Equal_byte_byte_j1 = some t9001)) ?_ ?_
  · --
   rintro _ hp
   refine st_conv (l' := []) (M' := Mem w0 (Fz F W :: cs)) rfl (fun _ h => h) ?_
   unfold slices_Equal_byte_byte_j1 at hp
   refine st_seq ?_
   refine st_region [oF 0] (by rfl) ?_
   refine oR [oF 0] [(4, .bool true)] [4] (by kernel_rfl) ?_
   refine ops_nil ?_
   refine fin_then ?_
   refine st_ret ?_
   have hq_ := Option.some.inj hp
   have hr0_ := hq_
   subst hr0_
   refine fin_ret [.tmp 4] [.bool true] rfl rfl (fun w_ hM => (.tmp rfl .nil)) (fun w_ hM => ?_)
   exact ⟨trivial, rfl, hM⟩
  · --
   intro HJ1
   refine st_seq ?_
   refine st_seq ?_
   refine st_region [oF 0, oF 1, oF 2] (by rfl) ?_
   refine oR [oF 0, oF 1, oF 2] [(13, vI 0), (12, vI (s1_1.length : Int)), (0, .slice A_s1 s1_1.length c_s1), (1, .slice A_s2 s2_1.length c_s2)] [13, 12, 0, 1] (by kernel_rfl) ?_
   refine ops_nil ?_
   refine fin_then ?_
   refine st_block ?_
   obtain ⟨r2, hl2, hk2⟩ := obind hp
   refine st_loopP (σ := Int) (ρ := (Bool ⊕ Unit)) (γ := Unit) hl2 () (fun s_ g_ => match s_, g_ with | i2, _ => [(0, .slice A_s1 s1_1.length c_s1), (1, .slice A_s2 s2_1.length c_s2), (12, vI (s1_1.length : Int)), (13, vI i2)]) (fun s_ g_ => match s_, g_ with | i2, _ => Mem w0 (Fz F W :: cs)) (fun s_ g_ => match s_, g_ with | i2, _ => True) trivial (look_has ⟨rfl, rfl, rfl, rfl, trivial⟩) (fun w_ hM => hM) ?_
   rintro i2 _ o2 - hs_ hd2
   have hp : (slices_Equal_byte_byte_l2 s1_1 s2_1) i2 = some o2 := hs_
   clear hs_
   unfold slices_Equal_byte_byte_l2 at hp
   refine st_conv (l' := [(0, .slice A_s1 s1_1.length c_s1), (1, .slice A_s2 s2_1.length c_s2), (12, vI (s1_1.length : Int)), (13, vI i2)]) (M' := Mem w0 (Fz F W :: cs)) rfl (fun _ h => h) ?_
   refine st_seq ?_
   refine st_region [oF 0] (by rfl) ?_
   refine oR [oF 0] [(14, .bool (decide (i2 < (s1_1.length : Int)))), (0, .slice A_s1 s1_1.length c_s1), (1, .slice A_s2 s2_1.length c_s2), (12, vI (s1_1.length : Int)), (13, vI i2)] [14, 0, 1, 12, 13] (by kernel_rfl) ?_
   refine ops_nil ?_
   refine fin_then ?_
   refine st_seq ?_
   refine st_if (b := decide (i2 < (s1_1.length : Int))) rfl (fun hc3 => ?_) (fun hc3 => ?_)
   · --
    have hp := cnd_t hc3 hp
    refine st_skip ?_
    refine fin_then ?_
    refine st_seq ?_
    refine st_block ?_
    refine st_seq ?_
    refine st_region [oF 0, oF 1] (by rfl) ?_
    refine oR [oF 0, oF 1] [(5, vI i2), (0, .slice A_s1 s1_1.length c_s1), (1, .slice A_s2 s2_1.length c_s2), (12, vI (s1_1.length : Int)), (13, vI i2)] [5, 0, 1, 12, 13] (by kernel_rfl) ?_
    refine ops_nil ?_
    refine fin_then ?_
    refine st_seq ?_
    refine st_region_draw [oT 0, oT 1, oT 2, oT 3, oT 4, oT 5, oT 6, oT 7, oT 8] (Mem w0 (Fz F W :: cs)) (by kernel_rfl) (by kernel_rfl) (by kernel_rfl) (fun _ d _ _ _ h => by cases d <;> exact h) (M' := Mem w0 (Fz F W :: cs)) (fun w_ hM => ⟨hM.drew, hM.drew.sub (.cons_cons _ (.refl _))⟩) ?_
    refine oR [oT 0, oT 1] [(17, vI i2), (16, .slice A_s1 s1_1.length c_s1), (5, vI i2), (0, .slice A_s1 s1_1.length c_s1), (1, .slice A_s2 s2_1.length c_s2), (12, vI (s1_1.length : Int)), (13, vI i2)] [17, 16, 5, 0, 1, 12, 13] (by kernel_rfl) ?_
    obtain ⟨x4, hv5, hp⟩ := obind hp
    obtain ⟨m6, hm7, hx8⟩ := idx_some hv5
    have hl11 := (List.getElem?_eq_some_iff.1 hx8).1
    obtain ⟨ad12, vs9, hA13, hr10, hq14⟩ := RdS.el h_s1 hx8
    obtain rfl := hr10
    refine ops_val (op := (Go.Op.indexAddr 22 (Go.Operand.tmp 16) (Go.Operand.tmp 17))) (d := some 18) (v := .pointer (some (ad12.add (m6 * 1)))) ⟨by kernel_rfl⟩ (run_indexA hA13 Try.underlying22 (z := 1) (by kernel_rfl) rfl rfl hm7 hl11) ?_
    refine oR [] [(18, .pointer (some (ad12.add (m6 * 1)))), (5, vI i2), (0, .slice A_s1 s1_1.length c_s1), (1, .slice A_s2 s2_1.length c_s2), (12, vI (s1_1.length : Int)), (13, vI i2)] [18, 5, 0, 1, 12, 13] (by kernel_rfl) ?_
    refine ops_load (d := some 19) (an := [.v (.int .u8 x4)]) (evs := [.load (ad12.add (m6 * 1)) (.int .u8 x4)]) (v := .int .u8 x4) ⟨by kernel_rfl⟩ (fun w_ hM => ⟨hM.elcell 0 rfl hq14 0 rfl, rfl⟩) ?_
    refine oR [oT 4, oT 5] [(21, vI i2), (20, .slice A_s2 s2_1.length c_s2), (19, .int .u8 x4), (0, .slice A_s1 s1_1.length c_s1), (1, .slice A_s2 s2_1.length c_s2), (12, vI (s1_1.length : Int)), (13, vI i2)] [21, 20, 19, 0, 1, 12, 13] (by kernel_rfl) ?_
    obtain ⟨x15, hv16, hp⟩ := obind hp
    obtain ⟨m17, hm18, hx19⟩ := idx_some hv16
    have hl22 := (List.getElem?_eq_some_iff.1 hx19).1
    obtain ⟨ad23, vs20, hA24, hr21, hq25⟩ := RdS.el h_s2 hx19
    obtain rfl := hr21
    refine ops_val (op := (Go.Op.indexAddr 22 (Go.Operand.tmp 20) (Go.Operand.tmp 21))) (d := some 22) (v := .pointer (some (ad23.add (m17 * 1)))) ⟨by kernel_rfl⟩ (run_indexA hA24 Try.underlying22 (z := 1) (by kernel_rfl) rfl rfl hm18 hl22) ?_
    refine oR [] [(22, .pointer (some (ad23.add (m17 * 1)))), (19, .int .u8 x4), (0, .slice A_s1 s1_1.length c_s1), (1, .slice A_s2 s2_1.length c_s2), (12, vI (s1_1.length : Int)), (13, vI i2)] [22, 19, 0, 1, 12, 13] (by kernel_rfl) ?_
    refine ops_load (d := some 23) (an := [.v (.int .u8 x15)]) (evs := [.load (ad23.add (m17 * 1)) (.int .u8 x15)]) (v := .int .u8 x15) ⟨by kernel_rfl⟩ (fun w_ hM => ⟨hM.elcell 0 rfl hq25 0 rfl, rfl⟩) ?_
    refine oR [oT 8] [(24, .bool (!(x4 == x15))), (0, .slice A_s1 s1_1.length c_s1), (1, .slice A_s2 s2_1.length c_s2), (12, vI (s1_1.length : Int)), (13, vI i2)] [24, 0, 1, 12, 13] (by kernel_rfl) ?_
    refine ops_nil ?_
    refine fin_then ?_
    refine st_if (b := !(x4 == x15)) rfl (fun hc26 => ?_) (fun hc26 => ?_)
    · --
     have hp := cnd_t hc26 hp
     refine st_seq ?_
     refine st_region [oF 0] (by rfl) ?_
     refine oR [oF 0] [(4, .bool false)] [4] (by kernel_rfl) ?_
     refine ops_nil ?_
     refine fin_then ?_
     refine st_ret ?_
     refine fin_ret_block ?_
     refine fin_ret_then ?_
     refine fin_ret_then ?_
     refine fin_ret_block ?_
     refine fin_ret_then ?_
     obtain hq_ := Option.some.inj hp
     subst hq_
     obtain hq_ := hd2 _ rfl
     subst hq_
     have hp : some false = some t9001 := hk2
     have hq_ := Option.some.inj hp
     have hr0_ := hq_
     subst hr0_
     refine fin_ret [.tmp 4] [.bool false] rfl rfl (fun w_ hM => (.tmp rfl .nil)) (fun w_ hM => ?_)
     exact ⟨trivial, rfl, hM⟩
    · --
     have hp := cnd_f hc26 hp
     refine st_skip ?_
     refine fin_block ?_
     refine fin_then ?_
     refine st_region [oF 0, oF 1] (by rfl) ?_
     refine oR [oF 0, oF 1] [(13, vI (IntKind.i64.wrap (i2 + 1))), (0, .slice A_s1 s1_1.length c_s1), (1, .slice A_s2 s2_1.length c_s2), (12, vI (s1_1.length : Int))] [13, 0, 1, 12] (by kernel_rfl) ?_
     refine ops_nil ?_
     exact fin_again (IntKind.i64.wrap (i2 + 1)) () (Option.some.inj hp).symm trivial (look_has ⟨rfl, rfl, rfl, rfl, trivial⟩) (fun w_ hM => hM)
   · --
    have hp := cnd_f hc3 hp
    refine st_exit ?_
    refine fin_exit_then ?_
    refine fin_exit_then ?_
    refine fin_exit ?_
    obtain hq_ := Option.some.inj hp
    subst hq_
    obtain hq_ := hd2 _ rfl
    subst hq_
    have hp : slices_Equal_byte_byte_j1 = some t9001 := hk2
    exact fin_join HJ1 () hp (look_has trivial) (fun w_ hM => hM)
set_option maxHeartbeats 4000000 in
set_option maxRecDepth 100000 in
theorem tourlaw1_bitsBegun_ok (w0 w : World) (cs : List Chunk) (F : Nat → Prop) (W : World) (hM0 : Mem w0 (Fz F W :: cs) w) (t9001 : Bool) (hp : tourlaw1_bitsBegun = some t9001) : Calls Try.prog 24 #[] w fun e w' => (True) ∧ e = .returned (.bool t9001) ∧ Mem w0 (Fz F W :: cs) w' := by
 unfold tourlaw1_bitsBegun at hp
 refine sx_calls Try.func24 rfl (n := 15) (by kernel_rfl) (l := []) rfl (by rfl) hM0 ?_
 refine st_seq ?_
 refine st_region [oF 0] (by rfl) ?_
 refine oR [oF 0] [] [] (by kernel_rfl) ?_
 refine ops_nil ?_
 refine fin_then ?_
 refine st_seq ?_
 refine st_region [oF 0] (by rfl) ?_
 refine ops_new (d := some 1) (o := .cells #[.slice none 0 0, vI 0] 45) (v := fun b1 => vP b1 0) (M' := fun b1 => Mem w0 (.blk b1 [.slice none 0 0, vI 0] 45 :: Fz F W :: cs)) (fun b1 => ⟨by kernel_rfl⟩) (fun w_ hM hS => ⟨hM.blk [.slice none 0 0, vI 0] 45, trivial⟩) (fun b1 => ?_)
 refine ops_nil ?_
 refine fin_then ?_
 refine st_seq ?_
 refine st_region [oF 0, oF 1] (by rfl) ?_
 refine ops_conv (l' := [(1, vP b1 0)]) (M' := Mem w0 (orow none ([] : List Int).length 0 5 1 [] :: .blk b1 [.slice none 0 0, vI 0] 45 :: Fz F W :: cs)) rfl (fun w_ h => h.onil none 5 1) ?_
 refine ops_conv (l' := [(1, vP b1 0)]) (M' := Mem w0 (orow none ([] : List Int).length 0 5 1 [] :: .blk b1 [.slice none ([] : List Int).length 0, vI 0] 45 :: Fz F W :: cs)) rfl (fun _ h => h) ?_
 obtain ⟨x2, x3, x4, hv5, hp⟩ := obind3 hp
 refine ops_callI (σ := (Option Addr) × Nat × (List Value)) (d := some 3) (f := 25) (args := #[vP b1 0, vU 5, vI 3]) (v := (fun x_ => match x_ with | (A6, c7, y8) => vI x2)) (I := (fun x_ => match x_ with | (A6, c7, y8) => (RepL (Rep.int .u8) F W x3 y8))) (M' := (fun x_ => match x_ with | (A6, c7, y8) => Mem w0 (orow A6 x3.length c7 5 1 y8 :: .blk b1 [.slice A6 x3.length c7, vI x4] 45 :: Fz F W :: cs))) ⟨by kernel_rfl⟩ (fun w_ hM hS => (bits_Writer_Put_ok w0 w_ (cs) F W b1 none 0 ([] : List Int) [] 0 5 3 (hM.pick 3 [1, 0, 2] (by kernel_rfl) (by decide) rfl) (RepL.nil (R := (Rep.int .u8))) x2 x3 x4 hv5).mono (by rintro e w' ⟨A6, c7, y8, h9, rfl, h'⟩; have h' : Mem w0 (orow A6 x3.length c7 5 1 y8 :: .blk b1 [.slice A6 x3.length c7, vI x4] 45 :: Fz F W :: cs) w' := (h'.pick 3 [1, 0, 2] (by kernel_rfl) (by decide) rfl); exact ⟨(A6, c7, y8), h9, rfl, h', trivial⟩)) ?_
 rintro ⟨A6, c7, y8⟩ h9
 refine ops_conv (l' := [(3, vI x2), (1, vP b1 0)]) (M' := Mem w0 (orow A6 x3.length c7 5 1 y8 :: .blk b1 [.slice A6 x3.length c7, vI x4] 45 :: Fz F W :: cs)) rfl (fun _ h => h) ?_
 refine oR [oF 1] [(2, vI x2), (1, vP b1 0)] [2, 1] (by kernel_rfl) ?_
 refine ops_nil ?_
 refine fin_then ?_
 refine st_join1 (σ := Bool) (L := fun x_ => match x_ with | t10 => [(0, .bool t10)]) (N := fun x_ => match x_ with | t10 => Mem w0 (Fz F W :: cs)) (I := fun x_ => match x_ with | t10 => (tourlaw1_bitsBegun_j1 t10 = some t9001)) ?_ ?_
 · --
  rintro t10 hp
  refine st_conv (l' := [(0, .bool t10)]) (M' := Mem w0 (Fz F W :: cs)) rfl (fun _ h => h) ?_
  unfold tourlaw1_bitsBegun_j1 at hp
  refine st_ret ?_
  have hq_ := Option.some.inj hp
  have hr0_ := hq_
  subst hr0_
  refine fin_ret [.tmp 0] [.bool t10] rfl rfl (fun w_ hM => (.tmp rfl .nil)) (fun w_ hM => ?_)
  exact ⟨trivial, rfl, hM⟩
 · --
  intro HJ1
  refine st_seq ?_
  refine st_region [oF 0, oF 1, oF 2, oF 3, oF 4, oF 5, oF 6, oF 7, oF 8, oF 9, oF 10, oF 11] (by rfl) ?_
  refine oR [oF 0, oF 1, oF 2] [(6, .bool (x2 == 0)), (1, vP b1 0)] [6, 1] (by kernel_rfl) ?_
  refine ops_bool (t := (x2 == 0)) (l1 := [(6, .bool true), (1, vP b1 0)]) (l2 := [(6, .bool false), (1, vP b1 0)]) (fun h => by rw [h]) (fun h => by rw [h]) (fun hc11 => ?_) (fun hc11 => ?_)
  · --
   have hp := cnd_t hc11 hp
   obtain ⟨_, hv12, hp⟩ := obind hp
   refine ops_callI (σ := (List Value)) (d := some 7) (f := 31) (args := #[vP b1 0]) (v := (fun x_ => match x_ with | y13 => vI x4)) (I := (fun x_ => match x_ with | y13 => (RepL (Rep.int .u8) F W x3 y13))) (M' := (fun x_ => match x_ with | y13 => Mem w0 (orow A6 x3.length c7 5 1 y13 :: .blk b1 [.slice A6 x3.length c7, vI x4] 45 :: Fz F W :: cs))) ⟨by kernel_rfl⟩ (fun w_ hM hS => (bits_Writer_Len_ok w0 w_ (cs) F W b1 A6 c7 x3 y8 x4 (hM.pick 3 [1, 0, 2] (by kernel_rfl) (by decide) rfl) h9  hv12).mono (by rintro e w' ⟨y13, h14, rfl, h'⟩; have h' : Mem w0 (orow A6 x3.length c7 5 1 y13 :: .blk b1 [.slice A6 x3.length c7, vI x4] 45 :: Fz F W :: cs) w' := (h'.pick 3 [1, 0, 2] (by kernel_rfl) (by decide) rfl); exact ⟨y13, h14, rfl, h', trivial⟩)) ?_
   rintro y13 h14
   refine ops_conv (l' := [(7, vI x4), (6, .bool true), (1, vP b1 0)]) (M' := Mem w0 (orow A6 x3.length c7 5 1 y13 :: .blk b1 [.slice A6 x3.length c7, vI x4] 45 :: Fz F W :: cs)) rfl (fun _ h => h) ?_
   refine oR [oF 4, oF 5, oF 6] [(10, .bool (x4 == 3)), (1, vP b1 0)] [10, 1] (by kernel_rfl) ?_
   refine ops_bool (t := (x4 == 3)) (l1 := [(10, .bool true), (1, vP b1 0)]) (l2 := [(10, .bool false), (1, vP b1 0)]) (fun h => by rw [h]) (fun h => by rw [h]) (fun hc15 => ?_) (fun hc15 => ?_)
   · --
    have hp := cnd_t hc15 hp
    obtain ⟨x16, hv17, hp⟩ := obind hp
    refine ops_callI (σ := (Option Addr) × Nat × (List Value) × (List Value)) (d := some 11) (f := 33) (args := #[vP b1 0]) (v := (fun x_ => match x_ with | (A18, c19, y20, y21) => .slice A18 x16.length c19)) (I := (fun x_ => match x_ with | (A18, c19, y20, y21) => (RepL (Rep.int .u8) F W x16 y20) ∧ (RepL (Rep.int .u8) F W x3 y21))) (M' := (fun x_ => match x_ with | (A18, c19, y20, y21) => Mem w0 (orow A18 x16.length c19 5 1 y20 :: orow A6 x3.length c7 5 1 y21 :: .blk b1 [.slice A6 x3.length c7, vI x4] 45 :: Fz F W :: cs))) ⟨by kernel_rfl⟩ (fun w_ hM hS => (bits_Writer_Bytes_ok w0 w_ (cs) F W b1 A6 c7 x3 y13 x4 (hM.pick 3 [1, 0, 2] (by kernel_rfl) (by decide) rfl) h14 x16 hv17).mono (by rintro e w' ⟨A18, c19, y20, y21, ⟨h22, h23⟩, rfl, h'⟩; have h' : Mem w0 (orow A18 x16.length c19 5 1 y20 :: orow A6 x3.length c7 5 1 y21 :: .blk b1 [.slice A6 x3.length c7, vI x4] 45 :: Fz F W :: cs) w' := (h'.pick 4 [0, 2, 1, 3] (by kernel_rfl) (by decide) rfl); exact ⟨(A18, c19, y20, y21), ⟨h22, h23⟩, rfl, h', trivial⟩)) ?_
    rintro ⟨A18, c19, y20, y21⟩ ⟨h22, h23⟩
    refine ops_conv (l' := [(11, .slice A18 x16.length c19), (10, .bool true), (1, vP b1 0)]) (M' := Mem w0 (orow A18 x16.length c19 5 1 y20 :: orow A6 x3.length c7 5 1 y21 :: .blk b1 [.slice A6 x3.length c7, vI x4] 45 :: Fz F W :: cs)) rfl (fun _ h => h) ?_
    refine oR [] [(11, .slice A18 x16.length c19), (10, .bool true)] [11, 10] (by kernel_rfl) ?_
    have h24 : RepL (Rep.int .u8) F W ([5] : List Int) ([.int .u8 5]) := (RepL.cons (R := (Rep.int .u8)) (F := F) (w := W) (vs := [.int .u8 5]) (ys := []) rfl RepL.nil)
    refine ops_new (d := some 12) (o := .cells ([.int .u8 5]).toArray 5) (v := fun g25 => .slice (some ⟨g25, 0, none⟩) ([5] : List Int).length 1) (M' := fun g25 => Mem w0 (orow (some ⟨g25, 0, none⟩) ([5] : List Int).length 1 5 1 ([.int .u8 5]) :: orow A18 x16.length c19 5 1 y20 :: orow A6 x3.length c7 5 1 y21 :: .blk b1 [.slice A6 x3.length c7, vI x4] 45 :: Fz F W :: cs)) (fun g25 => ⟨by kernel_rfl⟩) (fun w_ hM hS => ⟨hM.onew [.int .u8 5] 5 1 1 rfl (by decide), trivial⟩) (fun g25 => ?_)
    obtain ⟨x26, hv27, hp⟩ := obind hp
    refine ops_callI (σ := Unit) (d := some 13) (f := 32) (args := #[.slice A18 x16.length c19, .slice (some ⟨g25, 0, none⟩) ([5] : List Int).length 1]) (v := (fun _ => .bool x26)) (I := (fun _ => True)) (M' := (fun _ => Mem w0 (orow (some ⟨g25, 0, none⟩) ([5] : List Int).length 1 5 1 ([.int .u8 5]) :: orow A18 x16.length c19 5 1 y20 :: orow A6 x3.length c7 5 1 y21 :: .blk b1 [.slice A6 x3.length c7, vI x4] 45 :: Fz F W :: cs))) ⟨by kernel_rfl⟩ (fun w_ hM hS => (slices_Equal_byte_byte_ok w_ w_ [] (fun b => b < w_.heap.size) w_ A18 c19 x16 (some ⟨g25, 0, none⟩) 1 ([5] : List Int) (Mem.fz0 w_) (hM.ordS 1 4 rfl rfl h22 rfl rfl) (hM.ordS 0 4 rfl rfl h24 rfl rfl) x26 hv27).mono (by rintro e w' ⟨-, rfl, h'⟩; have h' : Mem w_ [] w' := h'.pick 1 [] (by kernel_rfl) (by decide) rfl; exact ⟨(), trivial, rfl, hM.join h' rfl, trivial⟩)) ?_
    rintro _ -
    refine ops_conv (l' := [(13, .bool x26), (12, .slice (some ⟨g25, 0, none⟩) ([5] : List Int).length 1), (11, .slice A18 x16.length c19), (10, .bool true)]) (M' := Mem w0 (orow (some ⟨g25, 0, none⟩) ([5] : List Int).length 1 5 1 ([.int .u8 5]) :: orow A18 x16.length c19 5 1 y20 :: orow A6 x3.length c7 5 1 y21 :: .blk b1 [.slice A6 x3.length c7, vI x4] 45 :: Fz F W :: cs)) rfl (fun _ h => h) ?_
    refine oR [oF 10, oF 11] [(0, .bool x26)] [0] (by kernel_rfl) ?_
    refine ops_nil ?_
    exact fin_join HJ1 x26 hp (look_has ⟨rfl, trivial⟩) (fun w_ hM => hM.pick 5 [4] (by kernel_rfl) (by decide) rfl)
   · --
    have hp := cnd_f hc15 hp
    refine oR [oF 7, oF 8, oF 9, oF 10, oF 11] [(0, .bool false)] [0] (by kernel_rfl) ?_
    refine ops_nil ?_
    exact fin_join HJ1 false hp (look_has ⟨rfl, trivial⟩) (fun w_ hM => hM.pick 3 [2] (by kernel_rfl) (by decide) rfl)
  · --
   have hp := cnd_f hc11 hp
   refine oR [oF 3, oF 4, oF 5, oF 6, oF 7, oF 8, oF 9, oF 10, oF 11] [(0, .bool false)] [0] (by kernel_rfl) ?_
   refine ops_nil ?_
   exact fin_join HJ1 false hp (look_has ⟨rfl, trivial⟩) (fun w_ hM => hM.pick 3 [2] (by kernel_rfl) (by decide) rfl)
set_option maxHeartbeats 4000000 in
set_option maxRecDepth 100000 in
theorem tourref1_Bits_Add_ok (w0 w : World) (cs : List Chunk) (F : Nat → Prop) (W : World) (b_b : Nat) (A_b_0 : Option Addr) (c_b_0 : Nat) (b_0 : List Bool) (y_b_0 : List Value) (b_1 : Int) (v : Int) (n : Int) (hM0 : Mem w0 (.blk b_b [.slice A_b_0 b_0.length c_b_0, vI b_1] 40 :: orow A_b_0 b_0.length c_b_0 4 1 y_b_0 :: Fz F W :: cs) w) (h_b_0 : RepL Rep.bool F W b_0 y_b_0) (i9001 : Int) (l9004 : List Bool) (hp : tourref1_Bits_Add b_0 b_1 v n = some (i9001, l9004)) : Calls Try.prog 26 #[vP b_b 0, vU v, vI n] w fun e w' => ∃ (A9002 : Option Addr), ∃ (c9003 : Nat), ∃ (y9005 : List Value), ((RepL Rep.bool F W l9004 y9005)) ∧ e = .returned (vI i9001) ∧ Mem w0 (.blk b_b [.slice A9002 l9004.length c9003, vI b_1] 40 :: orow A9002 l9004.length c9003 4 1 y9005 :: Fz F W :: cs) w' := by
 unfold tourref1_Bits_Add at hp
 refine sx_calls Try.func26 rfl (n := 47) (by kernel_rfl) (l := [(0, vP b_b 0), (1, vU v), (2, vI n)]) rfl (by rfl) hM0 ?_
 refine st_seq ?_
 refine st_region [oF 0] (by rfl) ?_
 refine oR [oF 0] [(0, vP b_b 0), (1, vU v), (2, vI n)] [0, 1, 2] (by kernel_rfl) ?_
 refine ops_nil ?_
 refine fin_then ?_
 refine st_seq ?_
 refine st_seq ?_
 refine st_region [oF 0, oF 1, oF 2, oF 3, oF 4, oF 5] (by rfl) ?_
 refine oR [oF 0, oF 1, oF 2] [(10, .bool (decide (n < 0))), (0, vP b_b 0), (1, vU v), (2, vI n)] [10, 0, 1, 2] (by kernel_rfl) ?_
 refine ops_bool (t := decide (n < 0)) (l1 := [(10, .bool true), (0, vP b_b 0), (1, vU v), (2, vI n)]) (l2 := [(10, .bool false), (0, vP b_b 0), (1, vU v), (2, vI n)]) (fun h => by rw [h]) (fun h => by rw [h]) (fun hc1 => ?_) (fun hc1 => ?_)
 · --
  have hp := cnd_t hc1 hp
  refine oR [oF 3, oF 4, oF 5] [(13, .bool true), (0, vP b_b 0), (1, vU v), (2, vI n)] [13, 0, 1, 2] (by kernel_rfl) ?_
  refine ops_nil ?_
  refine fin_then ?_
  refine st_true rfl ?_
  refine st_seq ?_
  refine st_region [oF 0] (by rfl) ?_
  refine oR [oF 0] [(6, vI 1)] [6] (by kernel_rfl) ?_
  refine ops_nil ?_
  refine fin_then ?_
  refine st_ret ?_
  refine fin_ret_then ?_
  have hq_ := Option.some.inj hp
  obtain ⟨hr0_, hq_⟩ := Prod.mk.inj hq_
  have hr1_ := hq_
  subst hr0_
  subst hr1_
  refine fin_ret [.tmp 6] [vI 1] rfl rfl (fun w_ hM => (.tmp rfl .nil)) (fun w_ hM => ?_)
  exact ⟨A_b_0, c_b_0, y_b_0, h_b_0, rfl, hM⟩
 · --
  have hp := cnd_f hc1 hp
  refine oR [oF 3, oF 4, oF 5] [(13, .bool (decide (64 < n))), (0, vP b_b 0), (1, vU v), (2, vI n)] [13, 0, 1, 2] (by kernel_rfl) ?_
  refine ops_nil ?_
  refine fin_then ?_
  refine st_if (b := decide (64 < n)) rfl (fun hc2 => ?_) (fun hc2 => ?_)
  · --
   have hp := cnd_t hc2 hp
   refine st_seq ?_
   refine st_region [oF 0] (by rfl) ?_
   refine oR [oF 0] [(6, vI 1)] [6] (by kernel_rfl) ?_
   refine ops_nil ?_
   refine fin_then ?_
   refine st_ret ?_
   refine fin_ret_then ?_
   have hq_ := Option.some.inj hp
   obtain ⟨hr0_, hq_⟩ := Prod.mk.inj hq_
   have hr1_ := hq_
   subst hr0_
   subst hr1_
   refine fin_ret [.tmp 6] [vI 1] rfl rfl (fun w_ hM => (.tmp rfl .nil)) (fun w_ hM => ?_)
   exact ⟨A_b_0, c_b_0, y_b_0, h_b_0, rfl, hM⟩
  · --
   have hp := cnd_f hc2 hp
   refine st_skip ?_
   refine fin_then ?_
   refine st_seq ?_
   refine st_region [oF 0] (by rfl) ?_
   refine oR [oF 0] [(7, .slice none 0 0), (0, vP b_b 0), (1, vU v), (2, vI n)] [7, 0, 1, 2] (by kernel_rfl) ?_
   refine ops_nil ?_
   refine fin_then ?_
   refine st_join1 (σ := Int × (Option Addr) × Nat × (List Bool) × (List Value)) (L := fun x_ => match x_ with | (i3, A4, c5, l6, y7) => [(0, vP b_b 0), (1, vU i3), (2, vI n), (7, .slice A4 l6.length c5)]) (N := fun x_ => match x_ with | (i3, A4, c5, l6, y7) => Mem w0 (.blk b_b [.slice A_b_0 b_0.length c_b_0, vI b_1] 40 :: orow A_b_0 b_0.length c_b_0 4 1 y_b_0 :: orow A4 l6.length c5 4 1 y7 :: Fz F W :: cs)) (I := fun x_ => match x_ with | (i3, A4, c5, l6, y7) => ((tourref1_Bits_Add_j1 b_0 n) i3 l6 = some (i9001, l9004)) ∧ (RepL Rep.bool F W l6 y7)) ?_ ?_
   · --
    rintro ⟨i3, A4, c5, l6, y7⟩ ⟨hp, h8⟩
    refine st_conv (l' := [(0, vP b_b 0), (1, vU i3), (2, vI n), (7, .slice A4 l6.length c5)]) (M' := Mem w0 (.blk b_b [.slice A_b_0 b_0.length c_b_0, vI b_1] 40 :: orow A_b_0 b_0.length c_b_0 4 1 y_b_0 :: orow A4 l6.length c5 4 1 y7 :: Fz F W :: cs)) rfl (fun _ h => h) ?_
    unfold tourref1_Bits_Add_j1 at hp
    refine st_seq ?_
    refine st_block ?_
    refine st_seq ?_
    refine st_region [oF 0, oF 1, oF 2] (by rfl) ?_
    refine oR [oF 0, oF 1, oF 2] [(26, .bool (!(i3 == 0))), (0, vP b_b 0), (2, vI n), (7, .slice A4 l6.length c5)] [26, 0, 2, 7] (by kernel_rfl) ?_
    refine ops_nil ?_
    refine fin_then ?_
    refine st_if (b := !(i3 == 0)) rfl (fun hc9 => ?_) (fun hc9 => ?_)
    · --
     have hp := cnd_t hc9 hp
     refine st_seq ?_
     refine st_region [oF 0] (by rfl) ?_
     refine oR [oF 0] [(6, vI 1)] [6] (by kernel_rfl) ?_
     refine ops_nil ?_
     refine fin_then ?_
     refine st_ret ?_
     refine fin_ret_block ?_
     refine fin_ret_then ?_
     have hq_ := Option.some.inj hp
     obtain ⟨hr0_, hq_⟩ := Prod.mk.inj hq_
     have hr1_ := hq_
     subst hr0_
     subst hr1_
     refine fin_ret [.tmp 6] [vI 1] rfl rfl (fun w_ hM => (.tmp rfl .nil)) (fun w_ hM => ?_)
     exact ⟨A_b_0, c_b_0, y_b_0, h_b_0, rfl, hM.pick 4 [0, 1, 3] (by kernel_rfl) (by decide) rfl⟩
    · --
     have hp := cnd_f hc9 hp
     refine st_seq ?_
     refine st_region [oF 0, oF 1, oF 2, oF 3, oF 4, oF 5, oF 6, oF 7, oF 8] (by rfl) ?_
     refine oR [oF 0, oF 1, oF 2] [(32, vP b_b 0), (0, vP b_b 0), (2, vI n), (7, .slice A4 l6.length c5)] [32, 0, 2, 7] (by kernel_rfl) ?_
     refine ops_mem (d := some 33) (an := [.v (.slice A_b_0 b_0.length c_b_0)]) (evs := [.load ⟨b_b, 0, none⟩ (.slice A_b_0 b_0.length c_b_0)]) (v := .slice A_b_0 b_0.length c_b_0) (M' := Mem w0 (.blk b_b [.slice A_b_0 b_0.length c_b_0, vI b_1] 40 :: orow A_b_0 b_0.length c_b_0 4 1 y_b_0 :: orow A4 l6.length c5 4 1 y7 :: Fz F W :: cs)) ⟨by kernel_rfl⟩ (fun w_ hM hS => ⟨w_, ⟨hM.cell 0 rfl rfl, rfl⟩, hM, trivial⟩) ?_
     refine oR [oF 4, oF 5, oF 6, oF 7, oF 8] [(29, .bool (decide (524288 < IntKind.i64.wrap ((b_0.length : Int) + n)))), (0, vP b_b 0), (7, .slice A4 l6.length c5)] [29, 0, 7] (by kernel_rfl) ?_
     refine ops_nil ?_
     refine fin_then ?_
     refine st_if (b := decide (524288 < IntKind.i64.wrap ((b_0.length : Int) + n))) rfl (fun hc10 => ?_) (fun hc10 => ?_)
     · --
      have hp := cnd_t hc10 hp
      refine st_seq ?_
      refine st_region [oF 0] (by rfl) ?_
      refine oR [oF 0] [(6, vI 6)] [6] (by kernel_rfl) ?_
      refine ops_nil ?_
      refine fin_then ?_
      refine st_ret ?_
      refine fin_ret_block ?_
      refine fin_ret_then ?_
      have hq_ := Option.some.inj hp
      obtain ⟨hr0_, hq_⟩ := Prod.mk.inj hq_
      have hr1_ := hq_
      subst hr0_
      subst hr1_
      refine fin_ret [.tmp 6] [vI 6] rfl rfl (fun w_ hM => (.tmp rfl .nil)) (fun w_ hM => ?_)
      exact ⟨A_b_0, c_b_0, y_b_0, h_b_0, rfl, hM.pick 4 [0, 1, 3] (by kernel_rfl) (by decide) rfl⟩
     · --
      have hp := cnd_f hc10 hp
      refine st_skip ?_
      refine fin_block ?_
      refine fin_then ?_
      refine st_seq ?_
      refine st_region [oF 0, oF 1, oF 2, oF 3, oF 4, oF 5, oF 6, oF 7, oF 8, oF 9] (by rfl) ?_
      refine oR [oF 0, oF 1, oF 2, oF 3] [(41, vP b_b 0), (38, vP b_b 0), (7, .slice A4 l6.length c5)] [41, 38, 7] (by kernel_rfl) ?_
      refine ops_mem (d := some 42) (an := [.v (.slice A_b_0 b_0.length c_b_0)]) (evs := [.load ⟨b_b, 0, none⟩ (.slice A_b_0 b_0.length c_b_0)]) (v := .slice A_b_0 b_0.length c_b_0) (M' := Mem w0 (.blk b_b [.slice A_b_0 b_0.length c_b_0, vI b_1] 40 :: orow A_b_0 b_0.length c_b_0 4 1 y_b_0 :: orow A4 l6.length c5 4 1 y7 :: Fz F W :: cs)) ⟨by kernel_rfl⟩ (fun w_ hM hS => ⟨w_, ⟨hM.cell 0 rfl rfl, rfl⟩, hM, trivial⟩) ?_
      refine oR [oF 5] [(43, .slice A4 l6.length c5), (42, .slice A_b_0 b_0.length c_b_0), (38, vP b_b 0)] [43, 42, 38] (by kernel_rfl) ?_
      obtain ⟨l11, hv12, hp⟩ := obind hp
      obtain ⟨he13, hb14⟩ := app_some hv12
      obtain ⟨y15, hy16⟩ : ∃ y_, y_b_0 ++ y7 = y_ := ⟨_, rfl⟩
      have h17 : RepL Rep.bool F W l11 y15 := by rw [he13, ← hy16]; exact RepL.app h_b_0 h8
      refine ops_appendO (x := (Go.Operand.tmp 42)) (y := (Go.Operand.tmp 43)) (t := 38) (e := 4) (d := some 44) (n' := l11.length) (z := 1) (m := l6.length) (bytes := 1) (xs' := y15) (news := y7) (zv := .bool false) 1 ⟨by kernel_rfl⟩ rfl rfl Try.underlying38 (by kernel_rfl) (by rfl) rfl (fun w_ hM => hM.srcO 2 rfl) h8.len h8.one hb14 (by have z_ := congrArg List.length he13; rw [List.length_append] at z_; exact z_.symm) hy16 (fun _ _ _ _ hS h' => trivial) ?_
      rintro ⟨A18, c19⟩
      refine ops_conv (l' := [(44, .slice A18 l11.length c19), (43, .slice A4 l6.length c5), (42, .slice A_b_0 b_0.length c_b_0), (38, vP b_b 0)]) (M' := Mem w0 (.blk b_b [.slice A_b_0 b_0.length c_b_0, vI b_1] 40 :: orow A18 l11.length c19 4 1 y15 :: orow A4 l6.length c5 4 1 y7 :: Fz F W :: cs)) rfl (fun _ h => h) ?_
      refine oR [oF 7, oF 8] [(46, vP b_b 0), (44, .slice A18 l11.length c19)] [46, 44] (by kernel_rfl) ?_
      refine ops_store (an := []) (evs := [.store ⟨b_b, 0, none⟩ (.slice A18 l11.length c19)]) (M' := Mem w0 (.blk b_b [.slice A18 l11.length c19, vI b_1] 40 :: orow A18 l11.length c19 4 1 y15 :: orow A4 l6.length c5 4 1 y7 :: Fz F W :: cs)) ⟨by kernel_rfl⟩ (fun w_ hM hS => let ⟨w', he, h'⟩ := hM.evs_stores [.slice A18 l11.length c19] 0 rfl 0 (Nat.le_of_ble_eq_true rfl); ⟨w', he, h', trivial⟩) ?_
      refine oR [] [] [] (by kernel_rfl) ?_
      refine ops_nil ?_
      refine fin_then ?_
      refine st_seq ?_
      refine st_region [oF 0] (by rfl) ?_
      refine oR [oF 0] [(6, vI 0)] [6] (by kernel_rfl) ?_
      refine ops_nil ?_
      refine fin_then ?_
      refine st_ret ?_
      have hq_ := Option.some.inj hp
      obtain ⟨hr0_, hq_⟩ := Prod.mk.inj hq_
      have hr1_ := hq_
      subst hr0_
      subst hr1_
      refine fin_ret [.tmp 6] [vI 0] rfl rfl (fun w_ hM => (.tmp rfl .nil)) (fun w_ hM => ?_)
      exact ⟨A18, c19, y15, h17, rfl, hM.pick 4 [0, 1, 3] (by kernel_rfl) (by decide) rfl⟩
   · --
    intro HJ1
    refine st_seq ?_
    refine st_seq ?_
    refine st_region [oF 0, oF 1] (by rfl) ?_
    refine oR [oF 0, oF 1] [(15, vI 0), (14, vI n), (7, .slice none 0 0), (0, vP b_b 0), (1, vU v), (2, vI n)] [15, 14, 7, 0, 1, 2] (by kernel_rfl) ?_
    refine ops_nil ?_
    refine fin_then ?_
    refine st_block ?_
    refine st_conv (l' := [(15, vI 0), (14, vI n), (7, .slice none 0 0), (0, vP b_b 0), (1, vU v), (2, vI n)]) (M' := Mem w0 (orow none ([] : List Bool).length 0 4 1 [] :: .blk b_b [.slice A_b_0 b_0.length c_b_0, vI b_1] 40 :: orow A_b_0 b_0.length c_b_0 4 1 y_b_0 :: Fz F W :: cs)) rfl (fun w_ h => h.onil none 4 1) ?_
    refine st_conv (l' := [(15, vI 0), (14, vI n), (7, .slice none ([] : List Bool).length 0), (0, vP b_b 0), (1, vU v), (2, vI n)]) (M' := Mem w0 (orow none ([] : List Bool).length 0 4 1 [] :: .blk b_b [.slice A_b_0 b_0.length c_b_0, vI b_1] 40 :: orow A_b_0 b_0.length c_b_0 4 1 y_b_0 :: Fz F W :: cs)) rfl (fun _ h => h) ?_
    obtain ⟨r2, hl2, hk2⟩ := obind hp
    refine st_loopP (σ := Int × (List Bool) × Int) (ρ := Int × (List Bool)) (γ := (Option Addr) × Nat × (List Value)) hl2 (none, 0, []) (fun s_ g_ => match s_, g_ with | (i20, l23, i26), (A21, c22, y24) => [(0, vP b_b 0), (1, vU i20), (2, vI n), (7, .slice A21 l23.length c22), (14, vI n), (15, vI i26)]) (fun s_ g_ => match s_, g_ with | (i20, l23, i26), (A21, c22, y24) => Mem w0 (.blk b_b [.slice A_b_0 b_0.length c_b_0, vI b_1] 40 :: orow A_b_0 b_0.length c_b_0 4 1 y_b_0 :: orow A21 l23.length c22 4 1 y24 :: Fz F W :: cs)) (fun s_ g_ => match s_, g_ with | (i20, l23, i26), (A21, c22, y24) => (RepL Rep.bool F W l23 y24)) (RepL.nil (R := Rep.bool)) (look_has ⟨rfl, rfl, rfl, rfl, rfl, rfl, trivial⟩) (fun w_ hM => hM.pick 4 [1, 2, 0, 3] (by kernel_rfl) (by decide) rfl) ?_
    rintro ⟨i20, l23, i26⟩ ⟨A21, c22, y24⟩ o2 h25 hs_ hd2
    have hp : (tourref1_Bits_Add_l2 n) i20 l23 i26 = some o2 := hs_
    clear hs_
    unfold tourref1_Bits_Add_l2 at hp
    refine st_conv (l' := [(0, vP b_b 0), (1, vU i20), (2, vI n), (7, .slice A21 l23.length c22), (14, vI n), (15, vI i26)]) (M' := Mem w0 (.blk b_b [.slice A_b_0 b_0.length c_b_0, vI b_1] 40 :: orow A_b_0 b_0.length c_b_0 4 1 y_b_0 :: orow A21 l23.length c22 4 1 y24 :: Fz F W :: cs)) rfl (fun _ h => h) ?_
    refine st_seq ?_
    refine st_region [oF 0] (by rfl) ?_
    refine oR [oF 0] [(16, .bool (decide (i26 < n))), (0, vP b_b 0), (1, vU i20), (2, vI n), (7, .slice A21 l23.length c22), (14, vI n), (15, vI i26)] [16, 0, 1, 2, 7, 14, 15] (by kernel_rfl) ?_
    refine ops_nil ?_
    refine fin_then ?_
    refine st_seq ?_
    refine st_if (b := decide (i26 < n)) rfl (fun hc27 => ?_) (fun hc27 => ?_)
    · --
     have hp := cnd_t hc27 hp
     refine st_skip ?_
     refine fin_then ?_
     refine st_seq ?_
     refine st_block ?_
     refine st_seq ?_
     refine st_region [oF 0, oF 1, oF 2, oF 3, oF 4, oF 5, oF 6] (by rfl) ?_
     refine oR [oF 0, oF 1, oF 2, oF 3] [(20, .bool (Int.tmod i20 2 == 1)), (17, .slice A21 l23.length c22), (0, vP b_b 0), (1, vU i20), (2, vI n), (7, .slice A21 l23.length c22), (14, vI n), (15, vI i26)] [20, 17, 0, 1, 2, 7, 14, 15] (by kernel_rfl) ?_
     have h28 : RepL Rep.bool F W ([(Int.tmod i20 2 == 1)] : List Bool) ([.bool (Int.tmod i20 2 == 1)]) := (RepL.cons (R := Rep.bool) (F := F) (w := W) (vs := [.bool (Int.tmod i20 2 == 1)]) (ys := []) rfl RepL.nil)
     refine ops_new (d := some 21) (o := .cells ([.bool (Int.tmod i20 2 == 1)]).toArray 4) (v := fun g29 => .slice (some ⟨g29, 0, none⟩) ([(Int.tmod i20 2 == 1)] : List Bool).length 1) (M' := fun g29 => Mem w0 (orow (some ⟨g29, 0, none⟩) ([(Int.tmod i20 2 == 1)] : List Bool).length 1 4 1 ([.bool (Int.tmod i20 2 == 1)]) :: .blk b_b [.slice A_b_0 b_0.length c_b_0, vI b_1] 40 :: orow A_b_0 b_0.length c_b_0 4 1 y_b_0 :: orow A21 l23.length c22 4 1 y24 :: Fz F W :: cs)) (fun g29 => ⟨by kernel_rfl⟩) (fun w_ hM hS => ⟨hM.onew [.bool (Int.tmod i20 2 == 1)] 4 1 1 rfl (by decide), trivial⟩) (fun g29 => ?_)
     refine oR [] [(21, .slice (some ⟨g29, 0, none⟩) ([(Int.tmod i20 2 == 1)] : List Bool).length 1), (17, .slice A21 l23.length c22), (0, vP b_b 0), (1, vU i20), (2, vI n), (7, .slice A21 l23.length c22), (14, vI n), (15, vI i26)] [21, 17, 0, 1, 2, 7, 14, 15] (by kernel_rfl) ?_
     obtain ⟨l30, hv31, hp⟩ := obind hp
     obtain ⟨he32, hb33⟩ := app_some hv31
     obtain ⟨y34, hy35⟩ : ∃ y_, y24 ++ ([.bool (Int.tmod i20 2 == 1)]) = y_ := ⟨_, rfl⟩
     have h36 : RepL Rep.bool F W l30 y34 := by rw [he32, ← hy35]; exact RepL.app h25 h28
     refine ops_appendO (x := (Go.Operand.tmp 17)) (y := (Go.Operand.tmp 21)) (t := 38) (e := 4) (d := some 22) (n' := l30.length) (z := 1) (m := ([(Int.tmod i20 2 == 1)] : List Bool).length) (bytes := 1) (xs' := y34) (news := ([.bool (Int.tmod i20 2 == 1)])) (zv := .bool false) 3 ⟨by kernel_rfl⟩ rfl rfl Try.underlying38 (by kernel_rfl) (by rfl) rfl (fun w_ hM => hM.srcO 0 rfl) h28.len h28.one hb33 (by have z_ := congrArg List.length he32; rw [List.length_append] at z_; exact z_.symm) hy35 (fun _ _ _ _ hS h' => trivial) ?_
     rintro ⟨A37, c38⟩
     refine ops_conv (l' := [(22, .slice A37 l30.length c38), (21, .slice (some ⟨g29, 0, none⟩) ([(Int.tmod i20 2 == 1)] : List Bool).length 1), (17, .slice A21 l23.length c22), (0, vP b_b 0), (1, vU i20), (2, vI n), (7, .slice A21 l23.length c22), (14, vI n), (15, vI i26)]) (M' := Mem w0 (orow (some ⟨g29, 0, none⟩) ([(Int.tmod i20 2 == 1)] : List Bool).length 1 4 1 ([.bool (Int.tmod i20 2 == 1)]) :: .blk b_b [.slice A_b_0 b_0.length c_b_0, vI b_1] 40 :: orow A_b_0 b_0.length c_b_0 4 1 y_b_0 :: orow A37 l30.length c38 4 1 y34 :: Fz F W :: cs)) rfl (fun _ h => h) ?_
     refine oR [oF 6] [(7, .slice A37 l30.length c38), (0, vP b_b 0), (1, vU i20), (2, vI n), (14, vI n), (15, vI i26)] [7, 0, 1, 2, 14, 15] (by kernel_rfl) ?_
     refine ops_nil ?_
     refine fin_then ?_
     refine st_region [oF 0, oF 1, oF 2] (by rfl) ?_
     refine oR [oF 0, oF 1, oF 2] [(1, vU (IntKind.u64.wrap (Int.tdiv i20 2))), (7, .slice A37 l30.length c38), (0, vP b_b 0), (2, vI n), (14, vI n), (15, vI i26)] [1, 7, 0, 2, 14, 15] (by kernel_rfl) ?_
     refine ops_nil ?_
     refine fin_block ?_
     refine fin_then ?_
     refine st_region [oF 0, oF 1] (by rfl) ?_
     refine oR [oF 0, oF 1] [(15, vI (IntKind.i64.wrap (i26 + 1))), (1, vU (IntKind.u64.wrap (Int.tdiv i20 2))), (7, .slice A37 l30.length c38), (0, vP b_b 0), (2, vI n), (14, vI n)] [15, 1, 7, 0, 2, 14] (by kernel_rfl) ?_
     refine ops_nil ?_
     exact fin_again (IntKind.u64.wrap (Int.tdiv i20 2), l30, IntKind.i64.wrap (i26 + 1)) (A37, c38, y34) (Option.some.inj hp).symm h36 (look_has ⟨rfl, rfl, rfl, rfl, rfl, rfl, trivial⟩) (fun w_ hM => hM.pick 5 [1, 2, 3, 4] (by kernel_rfl) (by decide) rfl)
    · --
     have hp := cnd_f hc27 hp
     refine st_exit ?_
     refine fin_exit_then ?_
     refine fin_exit_then ?_
     refine fin_exit ?_
     obtain hq_ := Option.some.inj hp
     subst hq_
     obtain hq_ := hd2 _ rfl
     subst hq_
     have hp : (tourref1_Bits_Add_j1 b_0 n) i20 l23 = some (i9001, l9004) := hk2
     exact fin_join HJ1 (i20, A21, c22, l23, y24) ⟨hp, h25⟩ (look_has ⟨rfl, rfl, rfl, rfl, trivial⟩) (fun w_ hM => hM)
set_option maxHeartbeats 4000000 in
set_option maxRecDepth 100000 in
theorem bits_groups_ok (w0 w : World) (cs : List Chunk) (F : Nat → Prop) (W : World) (v : Int) (hM0 : Mem w0 (Fz F W :: cs) w) (i9001 : Int) (hp : bits_groups v = some i9001) : Calls Try.prog 104 #[vU v] w fun e w' => (True) ∧ e = .returned (vI i9001) ∧ Mem w0 (Fz F W :: cs) w' := by
 unfold bits_groups at hp
 refine sx_calls Try.func104 rfl (n := 13) (by kernel_rfl) (l := [(0, vU v)]) rfl (by rfl) hM0 ?_
 refine st_seq ?_
 refine st_region [oF 0] (by rfl) ?_
 refine oR [oF 0] [(0, vU v)] [0] (by kernel_rfl) ?_
 refine ops_nil ?_
 refine fin_then ?_
 refine st_seq ?_
 refine st_region [oF 0] (by rfl) ?_
 refine oR [oF 0] [(3, vI 1), (0, vU v)] [3, 0] (by kernel_rfl) ?_
 refine ops_nil ?_
 refine fin_then ?_
 refine st_join1 (σ := Int) (L := fun x_ => match x_ with | i1 => [(3, vI i1)]) (N := fun x_ => match x_ with | i1 => Mem w0 (Fz F W :: cs)) (I := fun x_ => match x_ with | i1 => (bits_groups_j1 i1 = some i9001)) ?_ ?_
 · --
  rintro i1 hp
  refine st_conv (l' := [(3, vI i1)]) (M' := Mem w0 (Fz F W :: cs)) rfl (fun _ h => h) ?_
  unfold bits_groups_j1 at hp
  refine st_seq ?_
  refine st_region [oF 0, oF 1] (by rfl) ?_
  refine oR [oF 0, oF 1] [(2, vI i1)] [2] (by kernel_rfl) ?_
  refine ops_nil ?_
  refine fin_then ?_
  refine st_ret ?_
  have hq_ := Option.some.inj hp
  have hr0_ := hq_
  subst hr0_
  refine fin_ret [.tmp 2] [vI i1] rfl rfl (fun w_ hM => (.tmp rfl .nil)) (fun w_ hM => ?_)
  exact ⟨trivial, rfl, hM⟩
 · --
  intro HJ1
  refine st_seq ?_
  refine st_seq ?_
  refine st_region [oF 0, oF 1, oF 2] (by rfl) ?_
  refine oR [oF 0, oF 1, oF 2] [(0, vU (Int.fdiv v 16)), (3, vI 1)] [0, 3] (by kernel_rfl) ?_
  refine ops_nil ?_
  refine fin_then ?_
  refine st_block ?_
  obtain ⟨r2, hl2, hk2⟩ := obind hp
  refine st_loopP (σ := Int × Int) (ρ := Int) (γ := Unit) hl2 () (fun s_ g_ => match s_, g_ with | (i2, i3), _ => [(0, vU i2), (3, vI i3)]) (fun s_ g_ => match s_, g_ with | (i2, i3), _ => Mem w0 (Fz F W :: cs)) (fun s_ g_ => match s_, g_ with | (i2, i3), _ => True) trivial (look_has ⟨rfl, rfl, trivial⟩) (fun w_ hM => hM) ?_
  rintro ⟨i2, i3⟩ _ o2 - hs_ hd2
  have hp : bits_groups_l2 i2 i3 = some o2 := hs_
  clear hs_
  unfold bits_groups_l2 at hp
  refine st_conv (l' := [(0, vU i2), (3, vI i3)]) (M' := Mem w0 (Fz F W :: cs)) rfl (fun _ h => h) ?_
  refine st_seq ?_
  refine st_seq ?_
  refine st_region [oF 0, oF 1] (by rfl) ?_
  refine oR [oF 0, oF 1] [(7, .bool (decide (0 < i2))), (0, vU i2), (3, vI i3)] [7, 0, 3] (by kernel_rfl) ?_
  refine ops_nil ?_
  refine fin_then ?_
  refine st_if (b := decide (0 < i2)) rfl (fun hc4 => ?_) (fun hc4 => ?_)
  · --
   have hp := cnd_t hc4 hp
   refine st_skip ?_
   refine fin_then ?_
   refine st_seq ?_
   refine st_block ?_
   refine st_region [oF 0, oF 1, oF 2] (by rfl) ?_
   refine oR [oF 0, oF 1, oF 2] [(3, vI (IntKind.i64.wrap (i3 + 1))), (0, vU i2)] [3, 0] (by kernel_rfl) ?_
   refine ops_nil ?_
   refine fin_block ?_
   refine fin_then ?_
   refine st_region [oF 0, oF 1, oF 2] (by rfl) ?_
   refine oR [oF 0, oF 1, oF 2] [(0, vU (Int.fdiv i2 16)), (3, vI (IntKind.i64.wrap (i3 + 1)))] [0, 3] (by kernel_rfl) ?_
   refine ops_nil ?_
   exact fin_again (Int.fdiv i2 16, IntKind.i64.wrap (i3 + 1)) () (Option.some.inj hp).symm trivial (look_has ⟨rfl, rfl, trivial⟩) (fun w_ hM => hM)
  · --
   have hp := cnd_f hc4 hp
   refine st_exit ?_
   refine fin_exit_then ?_
   refine fin_exit_then ?_
   refine fin_exit ?_
   obtain hq_ := Option.some.inj hp
   subst hq_
   obtain hq_ := hd2 _ rfl
   subst hq_
   have hp : bits_groups_j1 i3 = some i9001 := hk2
   exact fin_join HJ1 i3 hp (look_has ⟨rfl, trivial⟩) (fun w_ hM => hM)
set_option maxHeartbeats 4000000 in
set_option maxRecDepth 100000 in
theorem bits_Writer_Nat_ok (w0 w : World) (cs : List Chunk) (F : Nat → Prop) (W : World) (b_w : Nat) (A_w_0 : Option Addr) (c_w_0 : Nat) (w_0 : List Int) (y_w_0 : List Value) (w_1 : Int) (v : Int) (hM0 : Mem w0 (.blk b_w [.slice A_w_0 w_0.length c_w_0, vI w_1] 45 :: orow A_w_0 w_0.length c_w_0 5 1 y_w_0 :: Fz F W :: cs) w) (h_w_0 : RepL (Rep.int .u8) F W w_0 y_w_0) (i9001 : Int) (l9004 : List Int) (i9007 : Int) (hp : bits_Writer_Nat w_0 w_1 v = some (i9001, l9004, i9007)) : Calls Try.prog 27 #[vP b_w 0, vU v] w fun e w' => ∃ (A9002 : Option Addr), ∃ (c9003 : Nat), ∃ (y9005 : List Value), ((RepL (Rep.int .u8) F W l9004 y9005)) ∧ e = .returned (vI i9001) ∧ Mem w0 (.blk b_w [.slice A9002 l9004.length c9003, vI i9007] 45 :: orow A9002 l9004.length c9003 5 1 y9005 :: Fz F W :: cs) w' := by
 unfold bits_Writer_Nat at hp
 refine sx_calls Try.func27 rfl (n := 36) (by kernel_rfl) (l := [(0, vP b_w 0), (1, vU v)]) rfl (by rfl) hM0 ?_
 refine st_seq ?_
 refine st_region [oF 0] (by rfl) ?_
 refine oR [oF 0] [(0, vP b_w 0), (1, vU v)] [0, 1] (by kernel_rfl) ?_
 refine ops_nil ?_
 refine fin_then ?_
 refine st_seq ?_
 refine st_region [oF 0, oF 1, oF 2] (by rfl) ?_
 refine oR [oF 0] [(8, vU v), (0, vP b_w 0), (1, vU v)] [8, 0, 1] (by kernel_rfl) ?_
 obtain ⟨x1, hv2, hp⟩ := obind hp
 refine ops_callI (σ := Unit) (d := some 9) (f := 104) (args := #[vU v]) (v := (fun _ => vI x1)) (I := (fun _ => True)) (M' := (fun _ => Mem w0 (.blk b_w [.slice A_w_0 w_0.length c_w_0, vI w_1] 45 :: orow A_w_0 w_0.length c_w_0 5 1 y_w_0 :: Fz F W :: cs))) ⟨by kernel_rfl⟩ (fun w_ hM hS => (bits_groups_ok w0 w_ (.blk b_w [.slice A_w_0 w_0.length c_w_0, vI w_1] 45 :: orow A_w_0 w_0.length c_w_0 5 1 y_w_0 :: cs) F W v (hM.pick 3 [2, 0, 1] (by kernel_rfl) (by decide) rfl)  x1 hv2).mono (by rintro e w' ⟨-, rfl, h'⟩; have h' : Mem w0 (.blk b_w [.slice A_w_0 w_0.length c_w_0, vI w_1] 45 :: orow A_w_0 w_0.length c_w_0 5 1 y_w_0 :: Fz F W :: cs) w' := (h'.pick 3 [1, 2, 0] (by kernel_rfl) (by decide) rfl); exact ⟨(), trivial, rfl, h', trivial⟩)) ?_
 rintro _ -
 refine ops_conv (l' := [(9, vI x1), (8, vU v), (0, vP b_w 0), (1, vU v)]) (M' := Mem w0 (.blk b_w [.slice A_w_0 w_0.length c_w_0, vI w_1] 45 :: orow A_w_0 w_0.length c_w_0 5 1 y_w_0 :: Fz F W :: cs)) rfl (fun _ h => h) ?_
 refine oR [oF 2] [(5, vI x1), (0, vP b_w 0), (1, vU v)] [5, 0, 1] (by kernel_rfl) ?_
 refine ops_nil ?_
 refine fin_then ?_
 refine st_seq ?_
 refine st_seq ?_
 refine st_region [oF 0, oF 1, oF 2, oF 3, oF 4, oF 5, oF 6, oF 7] (by rfl) ?_
 refine oR [oF 0, oF 1, oF 2] [(12, vP b_w 1), (5, vI x1), (0, vP b_w 0), (1, vU v)] [12, 5, 0, 1] (by kernel_rfl) ?_
 refine ops_mem (d := some 13) (an := [.v (vI w_1)]) (evs := [.load ⟨b_w, 1, none⟩ (vI w_1)]) (v := vI w_1) (M' := Mem w0 (.blk b_w [.slice A_w_0 w_0.length c_w_0, vI w_1] 45 :: orow A_w_0 w_0.length c_w_0 5 1 y_w_0 :: Fz F W :: cs)) ⟨by kernel_rfl⟩ (fun w_ hM hS => ⟨w_, ⟨hM.cell 0 rfl rfl, rfl⟩, hM, trivial⟩) ?_
 refine oR [oF 4, oF 5, oF 6, oF 7] [(17, .bool (decide (524288 < IntKind.i64.wrap (w_1 + IntKind.i64.wrap (5 * x1))))), (5, vI x1), (0, vP b_w 0), (1, vU v)] [17, 5, 0, 1] (by kernel_rfl) ?_
 refine ops_nil ?_
 refine fin_then ?_
 refine st_if (b := decide (524288 < IntKind.i64.wrap (w_1 + IntKind.i64.wrap (5 * x1)))) rfl (fun hc3 => ?_) (fun hc3 => ?_)
 · --
  have hp := cnd_t hc3 hp
  refine st_seq ?_
  refine st_region [oF 0] (by rfl) ?_
  refine oR [oF 0] [(4, vI 6)] [4] (by kernel_rfl) ?_
  refine ops_nil ?_
  refine fin_then ?_
  refine st_ret ?_
  refine fin_ret_then ?_
  have hq_ := Option.some.inj hp
  obtain ⟨hr0_, hq_⟩ := Prod.mk.inj hq_
  obtain ⟨hr1_, hq_⟩ := Prod.mk.inj hq_
  have hr2_ := hq_
  subst hr0_
  subst hr1_
  subst hr2_
  refine fin_ret [.tmp 4] [vI 6] rfl rfl (fun w_ hM => (.tmp rfl .nil)) (fun w_ hM => ?_)
  exact ⟨A_w_0, c_w_0, y_w_0, h_w_0, rfl, hM⟩
 · --
  have hp := cnd_f hc3 hp
  refine st_skip ?_
  refine fin_then ?_
  refine st_join1 (σ := (Option Addr) × Nat × (List Int) × (List Value) × Int) (L := fun x_ => match x_ with | (A4, c5, l6, y7, i9) => []) (N := fun x_ => match x_ with | (A4, c5, l6, y7, i9) => Mem w0 (.blk b_w [.slice A4 l6.length c5, vI i9] 45 :: orow A4 l6.length c5 5 1 y7 :: Fz F W :: cs)) (I := fun x_ => match x_ with | (A4, c5, l6, y7, i9) => (bits_Writer_Nat_j1 l6 i9 = some (i9001, l9004, i9007)) ∧ (RepL (Rep.int .u8) F W l6 y7)) ?_ ?_
  · --
   rintro ⟨A4, c5, l6, y7, i9⟩ ⟨hp, h8⟩
   refine st_conv (l' := []) (M' := Mem w0 (.blk b_w [.slice A4 l6.length c5, vI i9] 45 :: orow A4 l6.length c5 5 1 y7 :: Fz F W :: cs)) rfl (fun _ h => h) ?_
   unfold bits_Writer_Nat_j1 at hp
   refine st_seq ?_
   refine st_region [oF 0] (by rfl) ?_
   refine oR [oF 0] [(4, vI 0)] [4] (by kernel_rfl) ?_
   refine ops_nil ?_
   refine fin_then ?_
   refine st_ret ?_
   have hq_ := Option.some.inj hp
   obtain ⟨hr0_, hq_⟩ := Prod.mk.inj hq_
   obtain ⟨hr1_, hq_⟩ := Prod.mk.inj hq_
   have hr2_ := hq_
   subst hr0_
   subst hr1_
   subst hr2_
   refine fin_ret [.tmp 4] [vI 0] rfl rfl (fun w_ hM => (.tmp rfl .nil)) (fun w_ hM => ?_)
   exact ⟨A4, c5, y7, h8, rfl, hM⟩
  · --
   intro HJ1
   refine st_seq ?_
   refine st_seq ?_
   refine st_region [oF 0, oF 1] (by rfl) ?_
   refine oR [oF 0, oF 1] [(19, vI 0), (18, vI x1), (5, vI x1), (0, vP b_w 0), (1, vU v)] [19, 18, 5, 0, 1] (by kernel_rfl) ?_
   refine ops_nil ?_
   refine fin_then ?_
   refine st_block ?_
   obtain ⟨r2, hl2, hk2⟩ := obind hp
   refine st_loopP (σ := (List Int) × Int × Int) (ρ := (List Int) × Int) (γ := (Option Addr) × Nat × (List Value)) hl2 (A_w_0, c_w_0, y_w_0) (fun s_ g_ => match s_, g_ with | (l12, i15, i16), (A10, c11, y13) => [(0, vP b_w 0), (1, vU v), (5, vI x1), (18, vI x1), (19, vI i16)]) (fun s_ g_ => match s_, g_ with | (l12, i15, i16), (A10, c11, y13) => Mem w0 (.blk b_w [.slice A10 l12.length c11, vI i15] 45 :: orow A10 l12.length c11 5 1 y13 :: Fz F W :: cs)) (fun s_ g_ => match s_, g_ with | (l12, i15, i16), (A10, c11, y13) => (RepL (Rep.int .u8) F W l12 y13)) h_w_0 (look_has ⟨rfl, rfl, rfl, rfl, rfl, trivial⟩) (fun w_ hM => hM) ?_
   rintro ⟨l12, i15, i16⟩ ⟨A10, c11, y13⟩ o2 h14 hs_ hd2
   have hp : (bits_Writer_Nat_l2 x1 v) l12 i15 i16 = some o2 := hs_
   clear hs_
   unfold bits_Writer_Nat_l2 at hp
   refine st_conv (l' := [(0, vP b_w 0), (1, vU v), (5, vI x1), (18, vI x1), (19, vI i16)]) (M' := Mem w0 (.blk b_w [.slice A10 l12.length c11, vI i15] 45 :: orow A10 l12.length c11 5 1 y13 :: Fz F W :: cs)) rfl (fun _ h => h) ?_
   refine st_seq ?_
   refine st_region [oF 0] (by rfl) ?_
   refine oR [oF 0] [(20, .bool (decide (i16 < x1))), (0, vP b_w 0), (1, vU v), (5, vI x1), (18, vI x1), (19, vI i16)] [20, 0, 1, 5, 18, 19] (by kernel_rfl) ?_
   refine ops_nil ?_
   refine fin_then ?_
   refine st_seq ?_
   refine st_if (b := decide (i16 < x1)) rfl (fun hc17 => ?_) (fun hc17 => ?_)
   · --
    have hp := cnd_t hc17 hp
    refine st_skip ?_
    refine fin_then ?_
    refine st_seq ?_
    refine st_block ?_
    refine st_seq ?_
    refine st_region [oF 0, oF 1] (by rfl) ?_
    refine oR [oF 0, oF 1] [(6, vI i16), (0, vP b_w 0), (1, vU v), (5, vI x1), (18, vI x1), (19, vI i16)] [6, 0, 1, 5, 18, 19] (by kernel_rfl) ?_
    refine ops_nil ?_
    refine fin_then ?_
    refine st_seq ?_
    refine st_region [oF 0] (by rfl) ?_
    refine oR [oF 0] [(7, vU 0), (6, vI i16), (0, vP b_w 0), (1, vU v), (5, vI x1), (18, vI x1), (19, vI i16)] [7, 6, 0, 1, 5, 18, 19] (by kernel_rfl) ?_
    refine ops_nil ?_
    refine fin_then ?_
    refine st_join1 (σ := Int) (L := fun x_ => match x_ with | i18 => [(0, vP b_w 0), (1, vU v), (5, vI x1), (6, vI i16), (7, vU i18), (18, vI x1), (19, vI i16)]) (N := fun x_ => match x_ with | i18 => Mem w0 (.blk b_w [.slice A10 l12.length c11, vI i15] 45 :: orow A10 l12.length c11 5 1 y13 :: Fz F W :: cs)) (I := fun x_ => match x_ with | i18 => ((bits_Writer_Nat_j3 v i16 l12 i15) i18 = some o2)) ?_ ?_
    · --
     rintro i18 hp
     refine st_conv (l' := [(0, vP b_w 0), (1, vU v), (5, vI x1), (6, vI i16), (7, vU i18), (18, vI x1), (19, vI i16)]) (M' := Mem w0 (.blk b_w [.slice A10 l12.length c11, vI i15] 45 :: orow A10 l12.length c11 5 1 y13 :: Fz F W :: cs)) rfl (fun _ h => h) ?_
     unfold bits_Writer_Nat_j3 at hp
     refine st_region [oF 0, oF 1, oF 2, oF 3, oF 4, oF 5, oF 6, oF 7, oF 8] (by rfl) ?_
     refine oR [oF 0, oF 1, oF 2, oF 3] [(29, vI (IntKind.i64.wrap (4 * i16))), (27, vU v), (26, vP b_w 0), (0, vP b_w 0), (1, vU v), (5, vI x1), (7, vU i18), (18, vI x1), (19, vI i16)] [29, 27, 26, 0, 1, 5, 7, 18, 19] (by kernel_rfl) ?_
     obtain ⟨x19, hv20, hp⟩ := obind hp
     obtain ⟨hb21, he22⟩ := shr_some hv20
     refine ops_val (op := (Go.Op.binOp Go.BinOp.shr 24 (Go.Operand.tmp 27) (Go.Operand.tmp 29) 3)) (d := some 30) (v := vU x19) ⟨by kernel_rfl⟩ (by rw [he22]; exact run_shr rfl rfl hb21) ?_
     refine oR [oF 5, oF 6, oF 7] [(33, vU (Go.bits .or .u64 (Go.bits .and .u64 x19 15) i18)), (26, vP b_w 0), (0, vP b_w 0), (1, vU v), (5, vI x1), (18, vI x1), (19, vI i16)] [33, 26, 0, 1, 5, 18, 19] (by kernel_rfl) ?_
     obtain ⟨x23, x24, x25, hv26, hp⟩ := obind3 hp
     refine ops_callI (σ := (Option Addr) × Nat × (List Value)) (d := some 34) (f := 25) (args := #[vP b_w 0, vU (Go.bits .or .u64 (Go.bits .and .u64 x19 15) i18), vI 5]) (v := (fun x_ => match x_ with | (A27, c28, y29) => vI x23)) (I := (fun x_ => match x_ with | (A27, c28, y29) => (RepL (Rep.int .u8) F W x24 y29))) (M' := (fun x_ => match x_ with | (A27, c28, y29) => Mem w0 (orow A27 x24.length c28 5 1 y29 :: .blk b_w [.slice A27 x24.length c28, vI x25] 45 :: Fz F W :: cs))) ⟨by kernel_rfl⟩ (fun w_ hM hS => (bits_Writer_Put_ok w0 w_ (cs) F W b_w A10 c11 l12 y13 i15 (Go.bits .or .u64 (Go.bits .and .u64 x19 15) i18) 5 hM h14 x23 x24 x25 hv26).mono (by rintro e w' ⟨A27, c28, y29, h30, rfl, h'⟩; have h' : Mem w0 (orow A27 x24.length c28 5 1 y29 :: .blk b_w [.slice A27 x24.length c28, vI x25] 45 :: Fz F W :: cs) w' := (h'.pick 3 [1, 0, 2] (by kernel_rfl) (by decide) rfl); exact ⟨(A27, c28, y29), h30, rfl, h', trivial⟩)) ?_
     rintro ⟨A27, c28, y29⟩ h30
     refine ops_conv (l' := [(34, vI x23), (33, vU (Go.bits .or .u64 (Go.bits .and .u64 x19 15) i18)), (26, vP b_w 0), (0, vP b_w 0), (1, vU v), (5, vI x1), (18, vI x1), (19, vI i16)]) (M' := Mem w0 (orow A27 x24.length c28 5 1 y29 :: .blk b_w [.slice A27 x24.length c28, vI x25] 45 :: Fz F W :: cs)) rfl (fun _ h => h) ?_
     refine oR [] [(0, vP b_w 0), (1, vU v), (5, vI x1), (18, vI x1), (19, vI i16)] [0, 1, 5, 18, 19] (by kernel_rfl) ?_
     refine ops_nil ?_
     refine fin_block ?_
     refine fin_then ?_
     refine st_region [oF 0, oF 1] (by rfl) ?_
     refine oR [oF 0, oF 1] [(19, vI (IntKind.i64.wrap (i16 + 1))), (0, vP b_w 0), (1, vU v), (5, vI x1), (18, vI x1)] [19, 0, 1, 5, 18] (by kernel_rfl) ?_
     refine ops_nil ?_
     exact fin_again (x24, x25, IntKind.i64.wrap (i16 + 1)) (A27, c28, y29) (Option.some.inj hp).symm h30 (look_has ⟨rfl, rfl, rfl, rfl, rfl, trivial⟩) (fun w_ hM => hM.pick 3 [1, 0, 2] (by kernel_rfl) (by decide) rfl)
    · --
     intro HJ3
     refine st_seq ?_
     refine st_seq ?_
     refine st_region [oF 0, oF 1, oF 2, oF 3] (by rfl) ?_
     refine oR [oF 0, oF 1, oF 2, oF 3] [(25, .bool (decide (IntKind.i64.wrap (i16 + 1) < x1))), (7, vU 0), (6, vI i16), (0, vP b_w 0), (1, vU v), (5, vI x1), (18, vI x1), (19, vI i16)] [25, 7, 6, 0, 1, 5, 18, 19] (by kernel_rfl) ?_
     refine ops_nil ?_
     refine fin_then ?_
     refine st_if (b := decide (IntKind.i64.wrap (i16 + 1) < x1)) rfl (fun hc31 => ?_) (fun hc31 => ?_)
     · --
      have hp := cnd_t hc31 hp
      refine st_region [oF 0] (by rfl) ?_
      refine oR [oF 0] [(7, vU 16), (6, vI i16), (0, vP b_w 0), (1, vU v), (5, vI x1), (18, vI x1), (19, vI i16)] [7, 6, 0, 1, 5, 18, 19] (by kernel_rfl) ?_
      refine ops_nil ?_
      exact fin_join HJ3 16 hp (look_has ⟨rfl, rfl, rfl, rfl, rfl, rfl, rfl, trivial⟩) (fun w_ hM => hM)
     · --
      have hp := cnd_f hc31 hp
      refine st_skip ?_
      exact fin_join HJ3 0 hp (look_has ⟨rfl, rfl, rfl, rfl, rfl, rfl, rfl, trivial⟩) (fun w_ hM => hM)
   · --
    have hp := cnd_f hc17 hp
    refine st_exit ?_
    refine fin_exit_then ?_
    refine fin_exit_then ?_
    refine fin_exit ?_
    obtain hq_ := Option.some.inj hp
    subst hq_
    obtain hq_ := hd2 _ rfl
    subst hq_
    have hp : bits_Writer_Nat_j1 l12 i15 = some (i9001, l9004, i9007) := hk2
    exact fin_join HJ1 (A10, c11, l12, y13, i15) ⟨hp, h14⟩ (look_has trivial) (fun w_ hM => hM)
set_option maxHeartbeats 4000000 in
set_option maxRecDepth 100000 in
theorem tourref1_Bits_AddNat_ok (w0 w : World) (cs : List Chunk) (F : Nat → Prop) (W : World) (b_b : Nat) (A_b_0 : Option Addr) (c_b_0 : Nat) (b_0 : List Bool) (y_b_0 : List Value) (b_1 : Int) (v : Int) (hM0 : Mem w0 (.blk b_b [.slice A_b_0 b_0.length c_b_0, vI b_1] 40 :: orow A_b_0 b_0.length c_b_0 4 1 y_b_0 :: Fz F W :: cs) w) (h_b_0 : RepL Rep.bool F W b_0 y_b_0) (i9001 : Int) (l9004 : List Bool) (hp : tourref1_Bits_AddNat b_0 b_1 v = some (i9001, l9004)) : Calls Try.prog 28 #[vP b_b 0, vU v] w fun e w' => ∃ (A9002 : Option Addr), ∃ (c9003 : Nat), ∃ (y9005 : List Value), ((RepL Rep.bool F W l9004 y9005)) ∧ e = .returned (vI i9001) ∧ Mem w0 (.blk b_b [.slice A9002 l9004.length c9003, vI b_1] 40 :: orow A9002 l9004.length c9003 4 1 y9005 :: Fz F W :: cs) w' := by
 unfold tourref1_Bits_AddNat at hp
 refine sx_calls Try.func28 rfl (n := 43) (by kernel_rfl) (l := [(0, vP b_b 0), (1, vU v)]) rfl (by rfl) hM0 ?_
 refine st_seq ?_
 refine st_region [oF 0] (by rfl) ?_
 refine oR [oF 0] [(0, vP b_b 0), (1, vU v)] [0, 1] (by kernel_rfl) ?_
 refine ops_nil ?_
 refine fin_then ?_
 refine st_seq ?_
 refine st_region [oF 0] (by rfl) ?_
 refine oR [oF 0] [(5, .slice none 0 0), (0, vP b_b 0), (1, vU v)] [5, 0, 1] (by kernel_rfl) ?_
 refine ops_nil ?_
 refine fin_then ?_
 refine st_join1 (σ := (Option Addr) × Nat × (List Bool) × (List Value)) (L := fun x_ => match x_ with | (A1, c2, l3, y4) => [(0, vP b_b 0), (5, .slice A1 l3.length c2)]) (N := fun x_ => match x_ with | (A1, c2, l3, y4) => Mem w0 (.blk b_b [.slice A_b_0 b_0.length c_b_0, vI b_1] 40 :: orow A_b_0 b_0.length c_b_0 4 1 y_b_0 :: orow A1 l3.length c2 4 1 y4 :: Fz F W :: cs)) (I := fun x_ => match x_ with | (A1, c2, l3, y4) => ((tourref1_Bits_AddNat_j1 b_0) l3 = some (i9001, l9004)) ∧ (RepL Rep.bool F W l3 y4)) ?_ ?_
 · --
  rintro ⟨A1, c2, l3, y4⟩ ⟨hp, h5⟩
  refine st_conv (l' := [(0, vP b_b 0), (5, .slice A1 l3.length c2)]) (M' := Mem w0 (.blk b_b [.slice A_b_0 b_0.length c_b_0, vI b_1] 40 :: orow A_b_0 b_0.length c_b_0 4 1 y_b_0 :: orow A1 l3.length c2 4 1 y4 :: Fz F W :: cs)) rfl (fun _ h => h) ?_
  unfold tourref1_Bits_AddNat_j1 at hp
  refine st_seq ?_
  refine st_seq ?_
  refine st_region [oF 0, oF 1, oF 2, oF 3, oF 4, oF 5, oF 6, oF 7, oF 8] (by rfl) ?_
  refine oR [oF 0, oF 1, oF 2] [(27, vP b_b 0), (0, vP b_b 0), (5, .slice A1 l3.length c2)] [27, 0, 5] (by kernel_rfl) ?_
  refine ops_mem (d := some 28) (an := [.v (.slice A_b_0 b_0.length c_b_0)]) (evs := [.load ⟨b_b, 0, none⟩ (.slice A_b_0 b_0.length c_b_0)]) (v := .slice A_b_0 b_0.length c_b_0) (M' := Mem w0 (.blk b_b [.slice A_b_0 b_0.length c_b_0, vI b_1] 40 :: orow A_b_0 b_0.length c_b_0 4 1 y_b_0 :: orow A1 l3.length c2 4 1 y4 :: Fz F W :: cs)) ⟨by kernel_rfl⟩ (fun w_ hM hS => ⟨w_, ⟨hM.cell 0 rfl rfl, rfl⟩, hM, trivial⟩) ?_
  refine oR [oF 4, oF 5, oF 6, oF 7, oF 8] [(33, .bool (decide (524288 < IntKind.i64.wrap ((b_0.length : Int) + (l3.length : Int))))), (0, vP b_b 0), (5, .slice A1 l3.length c2)] [33, 0, 5] (by kernel_rfl) ?_
  refine ops_nil ?_
  refine fin_then ?_
  refine st_if (b := decide (524288 < IntKind.i64.wrap ((b_0.length : Int) + (l3.length : Int)))) rfl (fun hc6 => ?_) (fun hc6 => ?_)
  · --
   have hp := cnd_t hc6 hp
   refine st_seq ?_
   refine st_region [oF 0] (by rfl) ?_
   refine oR [oF 0] [(4, vI 6)] [4] (by kernel_rfl) ?_
   refine ops_nil ?_
   refine fin_then ?_
   refine st_ret ?_
   refine fin_ret_then ?_
   have hq_ := Option.some.inj hp
   obtain ⟨hr0_, hq_⟩ := Prod.mk.inj hq_
   have hr1_ := hq_
   subst hr0_
   subst hr1_
   refine fin_ret [.tmp 4] [vI 6] rfl rfl (fun w_ hM => (.tmp rfl .nil)) (fun w_ hM => ?_)
   exact ⟨A_b_0, c_b_0, y_b_0, h_b_0, rfl, hM.pick 4 [0, 1, 3] (by kernel_rfl) (by decide) rfl⟩
  · --
   have hp := cnd_f hc6 hp
   refine st_skip ?_
   refine fin_then ?_
   refine st_seq ?_
   refine st_region [oF 0, oF 1, oF 2, oF 3, oF 4, oF 5, oF 6, oF 7, oF 8, oF 9] (by rfl) ?_
   refine oR [oF 0, oF 1, oF 2, oF 3] [(37, vP b_b 0), (34, vP b_b 0), (5, .slice A1 l3.length c2)] [37, 34, 5] (by kernel_rfl) ?_
   refine ops_mem (d := some 38) (an := [.v (.slice A_b_0 b_0.length c_b_0)]) (evs := [.load ⟨b_b, 0, none⟩ (.slice A_b_0 b_0.length c_b_0)]) (v := .slice A_b_0 b_0.length c_b_0) (M' := Mem w0 (.blk b_b [.slice A_b_0 b_0.length c_b_0, vI b_1] 40 :: orow A_b_0 b_0.length c_b_0 4 1 y_b_0 :: orow A1 l3.length c2 4 1 y4 :: Fz F W :: cs)) ⟨by kernel_rfl⟩ (fun w_ hM hS => ⟨w_, ⟨hM.cell 0 rfl rfl, rfl⟩, hM, trivial⟩) ?_
   refine oR [oF 5] [(39, .slice A1 l3.length c2), (38, .slice A_b_0 b_0.length c_b_0), (34, vP b_b 0)] [39, 38, 34] (by kernel_rfl) ?_
   obtain ⟨l7, hv8, hp⟩ := obind hp
   obtain ⟨he9, hb10⟩ := app_some hv8
   obtain ⟨y11, hy12⟩ : ∃ y_, y_b_0 ++ y4 = y_ := ⟨_, rfl⟩
   have h13 : RepL Rep.bool F W l7 y11 := by rw [he9, ← hy12]; exact RepL.app h_b_0 h5
   refine ops_appendO (x := (Go.Operand.tmp 38)) (y := (Go.Operand.tmp 39)) (t := 38) (e := 4) (d := some 40) (n' := l7.length) (z := 1) (m := l3.length) (bytes := 1) (xs' := y11) (news := y4) (zv := .bool false) 1 ⟨by kernel_rfl⟩ rfl rfl Try.underlying38 (by kernel_rfl) (by rfl) rfl (fun w_ hM => hM.srcO 2 rfl) h5.len h5.one hb10 (by have z_ := congrArg List.length he9; rw [List.length_append] at z_; exact z_.symm) hy12 (fun _ _ _ _ hS h' => trivial) ?_
   rintro ⟨A14, c15⟩
   refine ops_conv (l' := [(40, .slice A14 l7.length c15), (39, .slice A1 l3.length c2), (38, .slice A_b_0 b_0.length c_b_0), (34, vP b_b 0)]) (M' := Mem w0 (.blk b_b [.slice A_b_0 b_0.length c_b_0, vI b_1] 40 :: orow A14 l7.length c15 4 1 y11 :: orow A1 l3.length c2 4 1 y4 :: Fz F W :: cs)) rfl (fun _ h => h) ?_
   refine oR [oF 7, oF 8] [(42, vP b_b 0), (40, .slice A14 l7.length c15)] [42, 40] (by kernel_rfl) ?_
   refine ops_store (an := []) (evs := [.store ⟨b_b, 0, none⟩ (.slice A14 l7.length c15)]) (M' := Mem w0 (.blk b_b [.slice A14 l7.length c15, vI b_1] 40 :: orow A14 l7.length c15 4 1 y11 :: orow A1 l3.length c2 4 1 y4 :: Fz F W :: cs)) ⟨by kernel_rfl⟩ (fun w_ hM hS => let ⟨w', he, h'⟩ := hM.evs_stores [.slice A14 l7.length c15] 0 rfl 0 (Nat.le_of_ble_eq_true rfl); ⟨w', he, h', trivial⟩) ?_
   refine oR [] [] [] (by kernel_rfl) ?_
   refine ops_nil ?_
   refine fin_then ?_
   refine st_seq ?_
   refine st_region [oF 0] (by rfl) ?_
   refine oR [oF 0] [(4, vI 0)] [4] (by kernel_rfl) ?_
   refine ops_nil ?_
   refine fin_then ?_
   refine st_ret ?_
   have hq_ := Option.some.inj hp
   obtain ⟨hr0_, hq_⟩ := Prod.mk.inj hq_
   have hr1_ := hq_
   subst hr0_
   subst hr1_
   refine fin_ret [.tmp 4] [vI 0] rfl rfl (fun w_ hM => (.tmp rfl .nil)) (fun w_ hM => ?_)
   exact ⟨A14, c15, y11, h13, rfl, hM.pick 4 [0, 1, 3] (by kernel_rfl) (by decide) rfl⟩
 · --
  intro HJ1
  refine st_seq ?_
  refine st_seq ?_
  refine st_region [oF 0] (by rfl) ?_
  refine oR [oF 0] [(6, .bool true), (5, .slice none 0 0), (0, vP b_b 0), (1, vU v)] [6, 5, 0, 1] (by kernel_rfl) ?_
  refine ops_nil ?_
  refine fin_then ?_
  refine st_block ?_
  refine st_conv (l' := [(6, .bool true), (5, .slice none 0 0), (0, vP b_b 0), (1, vU v)]) (M' := Mem w0 (orow none ([] : List Bool).length 0 4 1 [] :: .blk b_b [.slice A_b_0 b_0.length c_b_0, vI b_1] 40 :: orow A_b_0 b_0.length c_b_0 4 1 y_b_0 :: Fz F W :: cs)) rfl (fun w_ h => h.onil none 4 1) ?_
  refine st_conv (l' := [(6, .bool true), (5, .slice none ([] : List Bool).length 0), (0, vP b_b 0), (1, vU v)]) (M' := Mem w0 (orow none ([] : List Bool).length 0 4 1 [] :: .blk b_b [.slice A_b_0 b_0.length c_b_0, vI b_1] 40 :: orow A_b_0 b_0.length c_b_0 4 1 y_b_0 :: Fz F W :: cs)) rfl (fun _ h => h) ?_
  obtain ⟨r2, hl2, hk2⟩ := obind hp
  refine st_loopP (σ := Int × (List Bool) × Bool) (ρ := (List Bool)) (γ := (Option Addr) × Nat × (List Value)) hl2 (none, 0, []) (fun s_ g_ => match s_, g_ with | (i16, l19, t22), (A17, c18, y20) => [(0, vP b_b 0), (1, vU i16), (5, .slice A17 l19.length c18), (6, .bool t22)]) (fun s_ g_ => match s_, g_ with | (i16, l19, t22), (A17, c18, y20) => Mem w0 (.blk b_b [.slice A_b_0 b_0.length c_b_0, vI b_1] 40 :: orow A_b_0 b_0.length c_b_0 4 1 y_b_0 :: orow A17 l19.length c18 4 1 y20 :: Fz F W :: cs)) (fun s_ g_ => match s_, g_ with | (i16, l19, t22), (A17, c18, y20) => (RepL Rep.bool F W l19 y20)) (RepL.nil (R := Rep.bool)) (look_has ⟨rfl, rfl, rfl, rfl, trivial⟩) (fun w_ hM => hM.pick 4 [1, 2, 0, 3] (by kernel_rfl) (by decide) rfl) ?_
  rintro ⟨i16, l19, t22⟩ ⟨A17, c18, y20⟩ o2 h21 hs_ hd2
  have hp : tourref1_Bits_AddNat_l2 i16 l19 t22 = some o2 := hs_
  clear hs_
  unfold tourref1_Bits_AddNat_l2 at hp
  refine st_conv (l' := [(0, vP b_b 0), (1, vU i16), (5, .slice A17 l19.length c18), (6, .bool t22)]) (M' := Mem w0 (.blk b_b [.slice A_b_0 b_0.length c_b_0, vI b_1] 40 :: orow A_b_0 b_0.length c_b_0 4 1 y_b_0 :: orow A17 l19.length c18 4 1 y20 :: Fz F W :: cs)) rfl (fun _ h => h) ?_
  refine st_seq ?_
  refine st_seq ?_
  refine st_region [oF 0] (by rfl) ?_
  refine oR [oF 0] [(7, .bool t22), (0, vP b_b 0), (1, vU i16), (5, .slice A17 l19.length c18)] [7, 0, 1, 5] (by kernel_rfl) ?_
  refine ops_nil ?_
  refine fin_then ?_
  refine st_if (b := t22) rfl (fun hc23 => ?_) (fun hc23 => ?_)
  · --
   have hp := cnd_t hc23 hp
   refine st_skip ?_
   refine fin_then ?_
   refine st_block ?_
   refine st_join1 (σ := Int × (Option Addr) × Nat × (List Bool) × (List Value)) (L := fun x_ => match x_ with | (i24, A25, c26, l27, y28) => [(0, vP b_b 0), (1, vU i24), (5, .slice A25 l27.length c26)]) (N := fun x_ => match x_ with | (i24, A25, c26, l27, y28) => Mem w0 (.blk b_b [.slice A_b_0 b_0.length c_b_0, vI b_1] 40 :: orow A_b_0 b_0.length c_b_0 4 1 y_b_0 :: orow A25 l27.length c26 4 1 y28 :: Fz F W :: cs)) (I := fun x_ => match x_ with | (i24, A25, c26, l27, y28) => (tourref1_Bits_AddNat_j3 i24 l27 = some o2) ∧ (RepL Rep.bool F W l27 y28)) ?_ ?_
   · --
    rintro ⟨i24, A25, c26, l27, y28⟩ ⟨hp, h29⟩
    refine st_conv (l' := [(0, vP b_b 0), (1, vU i24), (5, .slice A25 l27.length c26)]) (M' := Mem w0 (.blk b_b [.slice A_b_0 b_0.length c_b_0, vI b_1] 40 :: orow A_b_0 b_0.length c_b_0 4 1 y_b_0 :: orow A25 l27.length c26 4 1 y28 :: Fz F W :: cs)) rfl (fun _ h => h) ?_
    unfold tourref1_Bits_AddNat_j3 at hp
    refine st_seq ?_
    refine st_region [oF 0, oF 1, oF 2] (by rfl) ?_
    refine oR [oF 0, oF 1, oF 2] [(6, .bool (decide (0 < i24))), (0, vP b_b 0), (1, vU i24), (5, .slice A25 l27.length c26)] [6, 0, 1, 5] (by kernel_rfl) ?_
    refine ops_nil ?_
    refine fin_then ?_
    refine st_region [oF 0, oF 1, oF 2, oF 3, oF 4] (by rfl) ?_
    refine oR [oF 0, oF 1] [(22, .bool (decide (0 < i24))), (21, .slice A25 l27.length c26), (6, .bool (decide (0 < i24))), (0, vP b_b 0), (1, vU i24), (5, .slice A25 l27.length c26)] [22, 21, 6, 0, 1, 5] (by kernel_rfl) ?_
    have h30 : RepL Rep.bool F W ([decide (0 < i24)] : List Bool) ([.bool (decide (0 < i24))]) := (RepL.cons (R := Rep.bool) (F := F) (w := W) (vs := [.bool (decide (0 < i24))]) (ys := []) rfl RepL.nil)
    refine ops_new (d := some 23) (o := .cells ([.bool (decide (0 < i24))]).toArray 4) (v := fun g31 => .slice (some ⟨g31, 0, none⟩) ([decide (0 < i24)] : List Bool).length 1) (M' := fun g31 => Mem w0 (orow (some ⟨g31, 0, none⟩) ([decide (0 < i24)] : List Bool).length 1 4 1 ([.bool (decide (0 < i24))]) :: .blk b_b [.slice A_b_0 b_0.length c_b_0, vI b_1] 40 :: orow A_b_0 b_0.length c_b_0 4 1 y_b_0 :: orow A25 l27.length c26 4 1 y28 :: Fz F W :: cs)) (fun g31 => ⟨by kernel_rfl⟩) (fun w_ hM hS => ⟨hM.onew [.bool (decide (0 < i24))] 4 1 1 rfl (by decide), trivial⟩) (fun g31 => ?_)
    refine oR [] [(23, .slice (some ⟨g31, 0, none⟩) ([decide (0 < i24)] : List Bool).length 1), (21, .slice A25 l27.length c26), (6, .bool (decide (0 < i24))), (0, vP b_b 0), (1, vU i24), (5, .slice A25 l27.length c26)] [23, 21, 6, 0, 1, 5] (by kernel_rfl) ?_
    obtain ⟨l32, hv33, hp⟩ := obind hp
    obtain ⟨he34, hb35⟩ := app_some hv33
    obtain ⟨y36, hy37⟩ : ∃ y_, y28 ++ ([.bool (decide (0 < i24))]) = y_ := ⟨_, rfl⟩
    have h38 : RepL Rep.bool F W l32 y36 := by rw [he34, ← hy37]; exact RepL.app h29 h30
    refine ops_appendO (x := (Go.Operand.tmp 21)) (y := (Go.Operand.tmp 23)) (t := 38) (e := 4) (d := some 24) (n' := l32.length) (z := 1) (m := ([decide (0 < i24)] : List Bool).length) (bytes := 1) (xs' := y36) (news := ([.bool (decide (0 < i24))])) (zv := .bool false) 3 ⟨by kernel_rfl⟩ rfl rfl Try.underlying38 (by kernel_rfl) (by rfl) rfl (fun w_ hM => hM.srcO 0 rfl) h30.len h30.one hb35 (by have z_ := congrArg List.length he34; rw [List.length_append] at z_; exact z_.symm) hy37 (fun _ _ _ _ hS h' => trivial) ?_
    rintro ⟨A39, c40⟩
    refine ops_conv (l' := [(24, .slice A39 l32.length c40), (23, .slice (some ⟨g31, 0, none⟩) ([decide (0 < i24)] : List Bool).length 1), (21, .slice A25 l27.length c26), (6, .bool (decide (0 < i24))), (0, vP b_b 0), (1, vU i24), (5, .slice A25 l27.length c26)]) (M' := Mem w0 (orow (some ⟨g31, 0, none⟩) ([decide (0 < i24)] : List Bool).length 1 4 1 ([.bool (decide (0 < i24))]) :: .blk b_b [.slice A_b_0 b_0.length c_b_0, vI b_1] 40 :: orow A_b_0 b_0.length c_b_0 4 1 y_b_0 :: orow A39 l32.length c40 4 1 y36 :: Fz F W :: cs)) rfl (fun _ h => h) ?_
    refine oR [oF 4] [(5, .slice A39 l32.length c40), (6, .bool (decide (0 < i24))), (0, vP b_b 0), (1, vU i24)] [5, 6, 0, 1] (by kernel_rfl) ?_
    refine ops_nil ?_
    refine fin_block ?_
    exact fin_again (i24, l32, decide (0 < i24)) (A39, c40, y36) (Option.some.inj hp).symm h38 (look_has ⟨rfl, rfl, rfl, rfl, trivial⟩) (fun w_ hM => hM.pick 5 [1, 2, 3, 4] (by kernel_rfl) (by decide) rfl)
   · --
    intro HJ3
    refine st_seq ?_
    refine st_seq ?_
    refine st_region [oF 0] (by rfl) ?_
    refine oR [oF 0] [(8, vI 0), (0, vP b_b 0), (1, vU i16), (5, .slice A17 l19.length c18)] [8, 0, 1, 5] (by kernel_rfl) ?_
    refine ops_nil ?_
    refine fin_then ?_
    refine st_block ?_
    obtain ⟨r4, hl4, hk4⟩ := obind hp
    refine st_loopP (σ := Int × (List Bool) × Int) (ρ := Int × (List Bool)) (γ := (Option Addr) × Nat × (List Value)) hl4 (A17, c18, y20) (fun s_ g_ => match s_, g_ with | (i41, l44, i47), (A42, c43, y45) => [(0, vP b_b 0), (1, vU i41), (5, .slice A42 l44.length c43), (8, vI i47)]) (fun s_ g_ => match s_, g_ with | (i41, l44, i47), (A42, c43, y45) => Mem w0 (.blk b_b [.slice A_b_0 b_0.length c_b_0, vI b_1] 40 :: orow A_b_0 b_0.length c_b_0 4 1 y_b_0 :: orow A42 l44.length c43 4 1 y45 :: Fz F W :: cs)) (fun s_ g_ => match s_, g_ with | (i41, l44, i47), (A42, c43, y45) => (RepL Rep.bool F W l44 y45)) h21 (look_has ⟨rfl, rfl, rfl, rfl, trivial⟩) (fun w_ hM => hM) ?_
    rintro ⟨i41, l44, i47⟩ ⟨A42, c43, y45⟩ o4 h46 hs_ hd4
    have hp : tourref1_Bits_AddNat_l4 i41 l44 i47 = some o4 := hs_
    clear hs_
    unfold tourref1_Bits_AddNat_l4 at hp
    refine st_conv (l' := [(0, vP b_b 0), (1, vU i41), (5, .slice A42 l44.length c43), (8, vI i47)]) (M' := Mem w0 (.blk b_b [.slice A_b_0 b_0.length c_b_0, vI b_1] 40 :: orow A_b_0 b_0.length c_b_0 4 1 y_b_0 :: orow A42 l44.length c43 4 1 y45 :: Fz F W :: cs)) rfl (fun _ h => h) ?_
    refine st_seq ?_
    refine st_region [oF 0] (by rfl) ?_
    refine oR [oF 0] [(9, .bool (decide (i47 < 4))), (0, vP b_b 0), (1, vU i41), (5, .slice A42 l44.length c43), (8, vI i47)] [9, 0, 1, 5, 8] (by kernel_rfl) ?_
    refine ops_nil ?_
    refine fin_then ?_
    refine st_seq ?_
    refine st_if (b := decide (i47 < 4)) rfl (fun hc48 => ?_) (fun hc48 => ?_)
    · --
     have hp := cnd_t hc48 hp
     refine st_skip ?_
     refine fin_then ?_
     refine st_seq ?_
     refine st_block ?_
     refine st_seq ?_
     refine st_region [oF 0, oF 1, oF 2, oF 3, oF 4, oF 5, oF 6] (by rfl) ?_
     refine oR [oF 0, oF 1, oF 2, oF 3] [(13, .bool (Int.tmod i41 2 == 1)), (10, .slice A42 l44.length c43), (0, vP b_b 0), (1, vU i41), (5, .slice A42 l44.length c43), (8, vI i47)] [13, 10, 0, 1, 5, 8] (by kernel_rfl) ?_
     have h49 : RepL Rep.bool F W ([(Int.tmod i41 2 == 1)] : List Bool) ([.bool (Int.tmod i41 2 == 1)]) := (RepL.cons (R := Rep.bool) (F := F) (w := W) (vs := [.bool (Int.tmod i41 2 == 1)]) (ys := []) rfl RepL.nil)
     refine ops_new (d := some 14) (o := .cells ([.bool (Int.tmod i41 2 == 1)]).toArray 4) (v := fun g50 => .slice (some ⟨g50, 0, none⟩) ([(Int.tmod i41 2 == 1)] : List Bool).length 1) (M' := fun g50 => Mem w0 (orow (some ⟨g50, 0, none⟩) ([(Int.tmod i41 2 == 1)] : List Bool).length 1 4 1 ([.bool (Int.tmod i41 2 == 1)]) :: .blk b_b [.slice A_b_0 b_0.length c_b_0, vI b_1] 40 :: orow A_b_0 b_0.length c_b_0 4 1 y_b_0 :: orow A42 l44.length c43 4 1 y45 :: Fz F W :: cs)) (fun g50 => ⟨by kernel_rfl⟩) (fun w_ hM hS => ⟨hM.onew [.bool (Int.tmod i41 2 == 1)] 4 1 1 rfl (by decide), trivial⟩) (fun g50 => ?_)
     refine oR [] [(14, .slice (some ⟨g50, 0, none⟩) ([(Int.tmod i41 2 == 1)] : List Bool).length 1), (10, .slice A42 l44.length c43), (0, vP b_b 0), (1, vU i41), (5, .slice A42 l44.length c43), (8, vI i47)] [14, 10, 0, 1, 5, 8] (by kernel_rfl) ?_
     obtain ⟨l51, hv52, hp⟩ := obind hp
     obtain ⟨he53, hb54⟩ := app_some hv52
     obtain ⟨y55, hy56⟩ : ∃ y_, y45 ++ ([.bool (Int.tmod i41 2 == 1)]) = y_ := ⟨_, rfl⟩
     have h57 : RepL Rep.bool F W l51 y55 := by rw [he53, ← hy56]; exact RepL.app h46 h49
     refine ops_appendO (x := (Go.Operand.tmp 10)) (y := (Go.Operand.tmp 14)) (t := 38) (e := 4) (d := some 15) (n' := l51.length) (z := 1) (m := ([(Int.tmod i41 2 == 1)] : List Bool).length) (bytes := 1) (xs' := y55) (news := ([.bool (Int.tmod i41 2 == 1)])) (zv := .bool false) 3 ⟨by kernel_rfl⟩ rfl rfl Try.underlying38 (by kernel_rfl) (by rfl) rfl (fun w_ hM => hM.srcO 0 rfl) h49.len h49.one hb54 (by have z_ := congrArg List.length he53; rw [List.length_append] at z_; exact z_.symm) hy56 (fun _ _ _ _ hS h' => trivial) ?_
     rintro ⟨A58, c59⟩
     refine ops_conv (l' := [(15, .slice A58 l51.length c59), (14, .slice (some ⟨g50, 0, none⟩) ([(Int.tmod i41 2 == 1)] : List Bool).length 1), (10, .slice A42 l44.length c43), (0, vP b_b 0), (1, vU i41), (5, .slice A42 l44.length c43), (8, vI i47)]) (M' := Mem w0 (orow (some ⟨g50, 0, none⟩) ([(Int.tmod i41 2 == 1)] : List Bool).length 1 4 1 ([.bool (Int.tmod i41 2 == 1)]) :: .blk b_b [.slice A_b_0 b_0.length c_b_0, vI b_1] 40 :: orow A_b_0 b_0.length c_b_0 4 1 y_b_0 :: orow A58 l51.length c59 4 1 y55 :: Fz F W :: cs)) rfl (fun _ h => h) ?_
     refine oR [oF 6] [(5, .slice A58 l51.length c59), (0, vP b_b 0), (1, vU i41), (8, vI i47)] [5, 0, 1, 8] (by kernel_rfl) ?_
     refine ops_nil ?_
     refine fin_then ?_
     refine st_region [oF 0, oF 1, oF 2] (by rfl) ?_
     refine oR [oF 0, oF 1, oF 2] [(1, vU (IntKind.u64.wrap (Int.tdiv i41 2))), (5, .slice A58 l51.length c59), (0, vP b_b 0), (8, vI i47)] [1, 5, 0, 8] (by kernel_rfl) ?_
     refine ops_nil ?_
     refine fin_block ?_
     refine fin_then ?_
     refine st_region [oF 0, oF 1] (by rfl) ?_
     refine oR [oF 0, oF 1] [(8, vI (IntKind.i64.wrap (i47 + 1))), (1, vU (IntKind.u64.wrap (Int.tdiv i41 2))), (5, .slice A58 l51.length c59), (0, vP b_b 0)] [8, 1, 5, 0] (by kernel_rfl) ?_
     refine ops_nil ?_
     exact fin_again (IntKind.u64.wrap (Int.tdiv i41 2), l51, IntKind.i64.wrap (i47 + 1)) (A58, c59, y55) (Option.some.inj hp).symm h57 (look_has ⟨rfl, rfl, rfl, rfl, trivial⟩) (fun w_ hM => hM.pick 5 [1, 2, 3, 4] (by kernel_rfl) (by decide) rfl)
    · --
     have hp := cnd_f hc48 hp
     refine st_exit ?_
     refine fin_exit_then ?_
     refine fin_exit_then ?_
     refine fin_exit ?_
     obtain hq_ := Option.some.inj hp
     subst hq_
     obtain hq_ := hd4 _ rfl
     subst hq_
     have hp : tourref1_Bits_AddNat_j3 i41 l44 = some o2 := hk4
     exact fin_join HJ3 (i41, A42, c43, l44, y45) ⟨hp, h46⟩ (look_has ⟨rfl, rfl, rfl, trivial⟩) (fun w_ hM => hM)
  · --
   have hp := cnd_f hc23 hp
   refine st_exit ?_
   refine fin_exit_then ?_
   refine fin_exit_then ?_
   refine fin_exit ?_
   obtain hq_ := Option.some.inj hp
   subst hq_
   obtain hq_ := hd2 _ rfl
   subst hq_
   have hp : (tourref1_Bits_AddNat_j1 b_0) l19 = some (i9001, l9004) := hk2
   exact fin_join HJ1 (A17, c18, l19, y20) ⟨hp, h21⟩ (look_has ⟨rfl, rfl, trivial⟩) (fun w_ hM => hM)
set_option maxHeartbeats 4000000 in
set_option maxRecDepth 100000 in
theorem bits_Writer_Int_ok (w0 w : World) (cs : List Chunk) (F : Nat → Prop) (W : World) (b_w : Nat) (A_w_0 : Option Addr) (c_w_0 : Nat) (w_0 : List Int) (y_w_0 : List Value) (w_1 : Int) (v : Int) (hM0 : Mem w0 (.blk b_w [.slice A_w_0 w_0.length c_w_0, vI w_1] 45 :: orow A_w_0 w_0.length c_w_0 5 1 y_w_0 :: Fz F W :: cs) w) (h_w_0 : RepL (Rep.int .u8) F W w_0 y_w_0) (i9001 : Int) (l9004 : List Int) (i9007 : Int) (hp : bits_Writer_Int w_0 w_1 v = some (i9001, l9004, i9007)) : Calls Try.prog 29 #[vP b_w 0, vI v] w fun e w' => ∃ (A9002 : Option Addr), ∃ (c9003 : Nat), ∃ (y9005 : List Value), ((RepL (Rep.int .u8) F W l9004 y9005)) ∧ e = .returned (vI i9001) ∧ Mem w0 (.blk b_w [.slice A9002 l9004.length c9003, vI i9007] 45 :: orow A9002 l9004.length c9003 5 1 y9005 :: Fz F W :: cs) w' := by
 unfold bits_Writer_Int at hp
 refine sx_calls Try.func29 rfl (n := 14) (by kernel_rfl) (l := [(0, vP b_w 0), (1, vI v)]) rfl (by rfl) hM0 ?_
 refine st_seq ?_
 refine st_region [oF 0] (by rfl) ?_
 refine oR [oF 0] [(0, vP b_w 0), (1, vI v)] [0, 1] (by kernel_rfl) ?_
 refine ops_nil ?_
 refine fin_then ?_
 refine st_seq ?_
 refine st_region [oF 0, oF 1, oF 2, oF 3, oF 4, oF 5, oF 6, oF 7, oF 8, oF 9] (by rfl) ?_
 refine oR [oF 0, oF 1, oF 2, oF 3, oF 4, oF 5, oF 6, oF 7] [(12, vU (Go.bits .xor .u64 (IntKind.u64.wrap (IntKind.u64.wrap v * 2)) (IntKind.u64.wrap (Int.fdiv v 9223372036854775808)))), (5, vP b_w 0)] [12, 5] (by kernel_rfl) ?_
 obtain ⟨x1, hv2, hp⟩ := obind hp
 refine ops_conv (l' := [(12, vU x1), (5, vP b_w 0)]) (by rw [← Option.some.inj hv2]) (fun _ h => h) ?_
 obtain ⟨x3, x4, x5, hv6, hp⟩ := obind3 hp
 refine ops_callI (σ := (Option Addr) × Nat × (List Value)) (d := some 13) (f := 27) (args := #[vP b_w 0, vU x1]) (v := (fun x_ => match x_ with | (A7, c8, y9) => vI x3)) (I := (fun x_ => match x_ with | (A7, c8, y9) => (RepL (Rep.int .u8) F W x4 y9))) (M' := (fun x_ => match x_ with | (A7, c8, y9) => Mem w0 (orow A7 x4.length c8 5 1 y9 :: .blk b_w [.slice A7 x4.length c8, vI x5] 45 :: Fz F W :: cs))) ⟨by kernel_rfl⟩ (fun w_ hM hS => (bits_Writer_Nat_ok w0 w_ (cs) F W b_w A_w_0 c_w_0 w_0 y_w_0 w_1 x1 hM h_w_0 x3 x4 x5 hv6).mono (by rintro e w' ⟨A7, c8, y9, h10, rfl, h'⟩; have h' : Mem w0 (orow A7 x4.length c8 5 1 y9 :: .blk b_w [.slice A7 x4.length c8, vI x5] 45 :: Fz F W :: cs) w' := (h'.pick 3 [1, 0, 2] (by kernel_rfl) (by decide) rfl); exact ⟨(A7, c8, y9), h10, rfl, h', trivial⟩)) ?_
 rintro ⟨A7, c8, y9⟩ h10
 refine ops_conv (l' := [(13, vI x3), (12, vU x1), (5, vP b_w 0)]) (M' := Mem w0 (orow A7 x4.length c8 5 1 y9 :: .blk b_w [.slice A7 x4.length c8, vI x5] 45 :: Fz F W :: cs)) rfl (fun _ h => h) ?_
 refine oR [oF 9] [(4, vI x3)] [4] (by kernel_rfl) ?_
 refine ops_nil ?_
 refine fin_then ?_
 refine st_ret ?_
 have hq_ := Option.some.inj hp
 obtain ⟨hr0_, hq_⟩ := Prod.mk.inj hq_
 obtain ⟨hr1_, hq_⟩ := Prod.mk.inj hq_
 have hr2_ := hq_
 subst hr0_
 subst hr1_
 subst hr2_
 refine fin_ret [.tmp 4] [vI x3] rfl rfl (fun w_ hM => (.tmp rfl .nil)) (fun w_ hM => ?_)
 exact ⟨A7, c8, y9, h10, rfl, hM.pick 3 [1, 0, 2] (by kernel_rfl) (by decide) rfl⟩
set_option maxHeartbeats 4000000 in
set_option maxRecDepth 100000 in
theorem tourref1_Zigzag_ok (w0 w : World) (cs : List Chunk) (F : Nat → Prop) (W : World) (v : Int) (hM0 : Mem w0 (Fz F W :: cs) w) (i9001 : Int) (hp : tourref1_Zigzag v = some i9001) : Calls Try.prog 30 #[vI v] w fun e w' => (True) ∧ e = .returned (vU i9001) ∧ Mem w0 (Fz F W :: cs) w' := by
 unfold tourref1_Zigzag at hp
 refine sx_calls Try.func30 rfl (n := 14) (by kernel_rfl) (l := [(0, vI v)]) rfl (by rfl) hM0 ?_
 refine st_seq ?_
 refine st_region [oF 0] (by rfl) ?_
 refine oR [oF 0] [(0, vI v)] [0] (by kernel_rfl) ?_
 refine ops_nil ?_
 refine fin_then ?_
 refine st_seq ?_
 refine st_seq ?_
 refine st_region [oF 0, oF 1] (by rfl) ?_
 refine oR [oF 0, oF 1] [(4, .bool (decide (v < 0))), (0, vI v)] [4, 0] (by kernel_rfl) ?_
 refine ops_nil ?_
 refine fin_then ?_
 refine st_if (b := decide (v < 0)) rfl (fun hc1 => ?_) (fun hc1 => ?_)
 · --
  have hp := cnd_t hc1 hp
  refine st_seq ?_
  refine st_region [oF 0, oF 1, oF 2, oF 3, oF 4, oF 5, oF 6] (by rfl) ?_
  refine oR [oF 0, oF 1, oF 2, oF 3, oF 4, oF 5, oF 6] [(2, vU (IntKind.u64.wrap (IntKind.u64.wrap (2 * IntKind.u64.wrap (IntKind.i64.wrap (0 - IntKind.i64.wrap (v + 1)))) + 1)))] [2] (by kernel_rfl) ?_
  obtain ⟨x2, hv3, hp⟩ := obind hp
  refine ops_conv (l' := [(2, vU x2)]) (by rw [← Option.some.inj hv3]) (fun _ h => h) ?_
  refine ops_nil ?_
  refine fin_then ?_
  refine st_ret ?_
  refine fin_ret_then ?_
  have hq_ := Option.some.inj hp
  have hr0_ := hq_
  subst hr0_
  refine fin_ret [.tmp 2] [vU x2] rfl rfl (fun w_ hM => (.tmp rfl .nil)) (fun w_ hM => ?_)
  exact ⟨trivial, rfl, hM⟩
 · --
  have hp := cnd_f hc1 hp
  refine st_skip ?_
  refine fin_then ?_
  refine st_seq ?_
  refine st_region [oF 0, oF 1, oF 2, oF 3] (by rfl) ?_
  refine oR [oF 0, oF 1, oF 2, oF 3] [(2, vU (IntKind.u64.wrap (2 * IntKind.u64.wrap v)))] [2] (by kernel_rfl) ?_
  refine ops_nil ?_
  refine fin_then ?_
  refine st_ret ?_
  have hq_ := Option.some.inj hp
  have hr0_ := hq_
  subst hr0_
  refine fin_ret [.tmp 2] [vU (IntKind.u64.wrap (2 * IntKind.u64.wrap v))] rfl rfl (fun w_ hM => (.tmp rfl .nil)) (fun w_ hM => ?_)
  exact ⟨trivial, rfl, hM⟩
end Go.Proofs.Ytfihfbkjomploaa.X
