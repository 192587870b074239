/- The Go functions come to what the plain functions tell. No condition. -/
import Derived.Test.YtfihfbkjomploaaProg
import Derived.Test.YtfihfbkjomploaaFnX
import Derived.Test.YtfihfbkjomploaaWkX2
import Derived.Test.YtfihfbkjomploaaWkX3
namespace Go.Proofs.Ytfihfbkjomploaa.X
open Go Go.RowKit Go.Proofs.Ytfihfbkjomploaa.Sx
set_option linter.unusedVariables false
set_option maxHeartbeats 4000000 in
set_option maxRecDepth 100000 in
theorem tourref1_Bits_Bytes_ok (w0 w : World) (cs : List Chunk) (F : Nat → Prop) (W : World) (b_b : Nat) (A_b_0 : Option Addr) (c_b_0 : Nat) (b_0 : List Bool) (y_b_0 : List Value) (b_1 : Int) (hM0 : Mem w0 (.blk b_b [.slice A_b_0 b_0.length c_b_0, vI b_1] 40 :: orow A_b_0 b_0.length c_b_0 4 1 y_b_0 :: Fz F W :: cs) w) (h_b_0 : RepL Rep.bool F W b_0 y_b_0) (l9003 : List Int) (hp : tourref1_Bits_Bytes b_0 b_1 = some l9003) : Calls Try.prog 34 #[vP b_b 0] w fun e w' => ∃ (A9001 : Option Addr), ∃ (c9002 : Nat), ∃ (y9004 : List Value), ∃ (A9006 : Option Addr), ∃ (y9007 : List Value), ((RepL (Rep.int .u8) F W l9003 y9004) ∧ (RepL Rep.bool F W b_0 y9007)) ∧ e = .returned (.slice A9001 l9003.length c9002) ∧ Mem w0 (orow A9001 l9003.length c9002 5 1 y9004 :: .blk b_b [.slice A9006 b_0.length c_b_0, vI b_1] 40 :: orow A9006 b_0.length c_b_0 4 1 y9007 :: Fz F W :: cs) w' := by
 unfold tourref1_Bits_Bytes at hp
 refine sx_calls Try.func34 rfl (n := 37) (by kernel_rfl) (l := [(0, vP b_b 0)]) rfl (by rfl) hM0 ?_
 refine st_seq ?_
 refine st_region [oF 0] (by rfl) ?_
 refine oR [oF 0] [(0, vP b_b 0)] [0] (by kernel_rfl) ?_
 refine ops_nil ?_
 refine fin_then ?_
 refine st_seq ?_
 refine st_region [oF 0, oF 1, oF 2, oF 3, oF 4, oF 5, oF 6, oF 7, oF 8] (by rfl) ?_
 refine oR [oF 0, oF 1, oF 2] [(8, vP b_b 0), (0, vP b_b 0)] [8, 0] (by kernel_rfl) ?_
 refine ops_mem (d := some 9) (an := [.v (.slice A_b_0 b_0.length c_b_0)]) (evs := [.load ⟨b_b, 0, none⟩ (.slice A_b_0 b_0.length c_b_0)]) (v := .slice A_b_0 b_0.length c_b_0) (M' := Mem w0 (.blk b_b [.slice A_b_0 b_0.length c_b_0, vI b_1] 40 :: orow A_b_0 b_0.length c_b_0 4 1 y_b_0 :: Fz F W :: cs)) ⟨by kernel_rfl⟩ (fun w_ hM hS => ⟨w_, ⟨hM.cell 0 rfl rfl, rfl⟩, hM, trivial⟩) ?_
 refine oR [oF 4, oF 5, oF 6] [(12, vI (IntKind.i64.wrap (Int.tdiv (IntKind.i64.wrap ((b_0.length : Int) + 7)) 8))), (0, vP b_b 0)] [12, 0] (by kernel_rfl) ?_
 obtain ⟨x1, hv2, hp⟩ := obind hp
 refine ops_conv (l' := [(12, vI x1), (0, vP b_b 0)]) (by rw [← Option.some.inj hv2]) (fun _ h => h) ?_
 obtain ⟨l3, hv4, hp⟩ := obind hp
 obtain ⟨m5, hm6, he7, hb8⟩ := mk_some hv4
 have hl9 : l3.length = m5 := by rw [he7, List.length_replicate]
 obtain ⟨y10, hy11⟩ : ∃ y_, (Sx.madeOf [.int .u8 0] (l3.length * 1)).toList = y_ := ⟨_, rfl⟩
 have h12 : RepL (Rep.int .u8) F W l3 y10 := by rw [← hy11, hl9, he7]; exact RepL.made rfl (by decide) _
 refine ops_makeO (t := 22) (x := (Go.Operand.tmp 12)) (y := (Go.Operand.tmp 12)) (d := some 13) (nn := l3.length) (z := 1) (bytes := 1) (xs := y10) (zv := .int .u8 0) ⟨by kernel_rfl⟩ rfl rfl (by rw [hl9]; exact hm6) (by rw [hl9]; exact hm6) Try.underlying22 (by kernel_rfl) (by rw [hl9]; exact hb8) (by rfl) hy11 (fun _ _ _ hS h' => trivial) (fun g13 => ?_)
 refine oR [oF 8] [(3, .slice (some ⟨g13, 0, none⟩) l3.length l3.length), (0, vP b_b 0)] [3, 0] (by kernel_rfl) ?_
 refine ops_nil ?_
 refine fin_then ?_
 refine st_join1 (σ := (List Int) × (List Value) × (Option Addr) × (List Value)) (L := fun x_ => match x_ with | (l14, y15, A17, y18) => [(3, .slice (some ⟨g13, 0, none⟩) l14.length l3.length)]) (N := fun x_ => match x_ with | (l14, y15, A17, y18) => Mem w0 (orow (some ⟨g13, 0, none⟩) l14.length l3.length 5 1 y15 :: .blk b_b [.slice A17 b_0.length c_b_0, vI b_1] 40 :: orow A17 b_0.length c_b_0 4 1 y18 :: Fz F W :: cs)) (I := fun x_ => match x_ with | (l14, y15, A17, y18) => (tourref1_Bits_Bytes_j1 l14 = some l9003) ∧ (RepL (Rep.int .u8) F W l14 y15) ∧ (RepL Rep.bool F W b_0 y18)) ?_ ?_
 · --
  rintro ⟨l14, y15, A17, y18⟩ ⟨hp, h16, h19⟩
  refine st_conv (l' := [(3, .slice (some ⟨g13, 0, none⟩) l14.length l3.length)]) (M' := Mem w0 (orow (some ⟨g13, 0, none⟩) l14.length l3.length 5 1 y15 :: .blk b_b [.slice A17 b_0.length c_b_0, vI b_1] 40 :: orow A17 b_0.length c_b_0 4 1 y18 :: Fz F W :: cs)) rfl (fun _ h => h) ?_
  unfold tourref1_Bits_Bytes_j1 at hp
  refine st_seq ?_
  refine st_region [oF 0, oF 1] (by rfl) ?_
  refine oR [oF 0, oF 1] [(2, .slice (some ⟨g13, 0, none⟩) l14.length l3.length)] [2] (by kernel_rfl) ?_
  refine ops_nil ?_
  refine fin_then ?_
  refine st_ret ?_
  have hq_ := Option.some.inj hp
  have hr0_ := hq_
  subst hr0_
  refine fin_ret [.tmp 2] [.slice (some ⟨g13, 0, none⟩) l14.length l3.length] rfl rfl (fun w_ hM => (.tmp rfl .nil)) (fun w_ hM => ?_)
  exact ⟨(some ⟨g13, 0, none⟩), l3.length, y15, A17, y18, ⟨h16, h19⟩, rfl, hM⟩
 · --
  intro HJ1
  refine st_seq ?_
  refine st_seq ?_
  refine st_region [oF 0, oF 1, oF 2, oF 3, oF 4, oF 5] (by rfl) ?_
  refine oR [oF 0, oF 1, oF 2] [(16, vP b_b 0), (3, .slice (some ⟨g13, 0, none⟩) l3.length l3.length)] [16, 3] (by kernel_rfl) ?_
  refine ops_mem (d := some 17) (an := [.v (.slice A_b_0 b_0.length c_b_0)]) (evs := [.load ⟨b_b, 0, none⟩ (.slice A_b_0 b_0.length c_b_0)]) (v := .slice A_b_0 b_0.length c_b_0) (M' := Mem w0 (orow (some ⟨g13, 0, none⟩) l3.length l3.length 5 1 y10 :: .blk b_b [.slice A_b_0 b_0.length c_b_0, vI b_1] 40 :: orow A_b_0 b_0.length c_b_0 4 1 y_b_0 :: Fz F W :: cs)) ⟨by kernel_rfl⟩ (fun w_ hM hS => ⟨w_, ⟨hM.cell 1 rfl rfl, rfl⟩, hM, trivial⟩) ?_
  refine oR [oF 4, oF 5] [(19, vI 0), (18, vI (b_0.length : Int)), (17, .slice A_b_0 b_0.length c_b_0), (3, .slice (some ⟨g13, 0, none⟩) l3.length l3.length)] [19, 18, 17, 3] (by kernel_rfl) ?_
  refine ops_nil ?_
  refine fin_then ?_
  refine st_block ?_
  obtain ⟨r2, hl2, hk2⟩ := obind hp
  refine st_loopP (σ := (List Int) × Int) (ρ := (List Int)) (γ := (List Value) × (Option Addr) × (List Value)) hl2 (y10, A_b_0, y_b_0) (fun s_ g_ => match s_, g_ with | (l20, i26), (y21, A23, y24) => [(3, .slice (some ⟨g13, 0, none⟩) l20.length l3.length), (17, .slice A23 b_0.length c_b_0), (18, vI (b_0.length : Int)), (19, vI i26)]) (fun s_ g_ => match s_, g_ with | (l20, i26), (y21, A23, y24) => Mem w0 (orow (some ⟨g13, 0, none⟩) l20.length l3.length 5 1 y21 :: orow A23 b_0.length c_b_0 4 1 y24 :: .blk b_b [.slice A23 b_0.length c_b_0, vI b_1] 40 :: Fz F W :: cs)) (fun s_ g_ => match s_, g_ with | (l20, i26), (y21, A23, y24) => (RepL (Rep.int .u8) F W l20 y21) ∧ (RepL Rep.bool F W b_0 y24)) ⟨h12, h_b_0⟩ (look_has ⟨rfl, rfl, rfl, rfl, trivial⟩) (fun w_ hM => hM.pick 4 [0, 2, 1, 3] (by kernel_rfl) (by decide) rfl) ?_
  rintro ⟨l20, i26⟩ ⟨y21, A23, y24⟩ o2 ⟨h22, h25⟩ hs_ hd2
  have hp : (tourref1_Bits_Bytes_l2 b_0) l20 i26 = some o2 := hs_
  clear hs_
  unfold tourref1_Bits_Bytes_l2 at hp
  refine st_conv (l' := [(3, .slice (some ⟨g13, 0, none⟩) l20.length l3.length), (17, .slice A23 b_0.length c_b_0), (18, vI (b_0.length : Int)), (19, vI i26)]) (M' := Mem w0 (orow (some ⟨g13, 0, none⟩) l20.length l3.length 5 1 y21 :: orow A23 b_0.length c_b_0 4 1 y24 :: .blk b_b [.slice A23 b_0.length c_b_0, vI b_1] 40 :: Fz F W :: cs)) rfl (fun _ h => h) ?_
  refine st_seq ?_
  refine st_region [oF 0] (by rfl) ?_
  refine oR [oF 0] [(20, .bool (decide (i26 < (b_0.length : Int)))), (3, .slice (some ⟨g13, 0, none⟩) l20.length l3.length), (17, .slice A23 b_0.length c_b_0), (18, vI (b_0.length : Int)), (19, vI i26)] [20, 3, 17, 18, 19] (by kernel_rfl) ?_
  refine ops_nil ?_
  refine fin_then ?_
  refine st_seq ?_
  refine st_if (b := decide (i26 < (b_0.length : Int))) rfl (fun hc27 => ?_) (fun hc27 => ?_)
  · --
   have hp := cnd_t hc27 hp
   refine st_skip ?_
   refine fin_then ?_
   refine st_join1 (σ := (List Int) × (List Value) × (Option Addr) × (List Value)) (L := fun x_ => match x_ with | (l28, y29, A31, y32) => [(3, .slice (some ⟨g13, 0, none⟩) l28.length l3.length), (17, .slice A31 b_0.length c_b_0), (18, vI (b_0.length : Int)), (19, vI i26)]) (N := fun x_ => match x_ with | (l28, y29, A31, y32) => Mem w0 (orow (some ⟨g13, 0, none⟩) l28.length l3.length 5 1 y29 :: orow A31 b_0.length c_b_0 4 1 y32 :: .blk b_b [.slice A31 b_0.length c_b_0, vI b_1] 40 :: Fz F W :: cs)) (I := fun x_ => match x_ with | (l28, y29, A31, y32) => ((tourref1_Bits_Bytes_j3 i26) l28 = some o2) ∧ (RepL (Rep.int .u8) F W l28 y29) ∧ (RepL Rep.bool F W b_0 y32)) ?_ ?_
   · --
    rintro ⟨l28, y29, A31, y32⟩ ⟨hp, h30, h33⟩
    refine st_conv (l' := [(3, .slice (some ⟨g13, 0, none⟩) l28.length l3.length), (17, .slice A31 b_0.length c_b_0), (18, vI (b_0.length : Int)), (19, vI i26)]) (M' := Mem w0 (orow (some ⟨g13, 0, none⟩) l28.length l3.length 5 1 y29 :: orow A31 b_0.length c_b_0 4 1 y32 :: .blk b_b [.slice A31 b_0.length c_b_0, vI b_1] 40 :: Fz F W :: cs)) rfl (fun _ h => h) ?_
    unfold tourref1_Bits_Bytes_j3 at hp
    refine st_region [oF 0, oF 1] (by rfl) ?_
    refine oR [oF 0, oF 1] [(19, vI (IntKind.i64.wrap (i26 + 1))), (3, .slice (some ⟨g13, 0, none⟩) l28.length l3.length), (17, .slice A31 b_0.length c_b_0), (18, vI (b_0.length : Int))] [19, 3, 17, 18] (by kernel_rfl) ?_
    refine ops_nil ?_
    exact fin_again (l28, IntKind.i64.wrap (i26 + 1)) (y29, A31, y32) (Option.some.inj hp).symm ⟨h30, h33⟩ (look_has ⟨rfl, rfl, rfl, rfl, trivial⟩) (fun w_ hM => hM)
   · --
    intro HJ3
    refine st_seq ?_
    refine st_block ?_
    refine st_seq ?_
    refine st_region [oF 0, oF 1, oF 2, oF 3, oF 4] (by rfl) ?_
    refine oR [oF 0] [(21, vI i26), (3, .slice (some ⟨g13, 0, none⟩) l20.length l3.length), (17, .slice A23 b_0.length c_b_0), (18, vI (b_0.length : Int)), (19, vI i26)] [21, 3, 17, 18, 19] (by kernel_rfl) ?_
    obtain ⟨x34, hv35, hp⟩ := obind hp
    obtain ⟨m36, hm37, hx38⟩ := idx_some hv35
    have hl41 := (List.getElem?_eq_some_iff.1 hx38).1
    refine ops_fact (fun w_ hM => hM.orowSome 1 rfl (Nat.lt_of_le_of_lt (Nat.zero_le _) hl41)) ?_
    rintro ⟨g42, rfl, -⟩
    obtain ⟨vs39, hr40, hq43⟩ := h25.at_ m36 x34 hx38
    obtain rfl := hr40
    refine ops_val (op := (Go.Op.indexAddr 38 (Go.Operand.tmp 17) (Go.Operand.tmp 19))) (d := some 22) (v := vP g42 (m36 * 1)) ⟨by kernel_rfl⟩ (run_indexRow Try.underlying38 (z := 1) (by kernel_rfl) rfl rfl hm37 hl41 rfl) ?_
    refine ops_mem (d := some 23) (an := [.v (.bool x34)]) (evs := [.load ⟨g42, m36 * 1, none⟩ (.bool x34)]) (v := .bool x34) (M' := Mem w0 (orow (some ⟨g13, 0, none⟩) l20.length l3.length 5 1 y21 :: orow (some ⟨g42, 0, none⟩) b_0.length c_b_0 4 1 y24 :: .blk b_b [.slice (some ⟨g42, 0, none⟩) b_0.length c_b_0, vI b_1] 40 :: Fz F W :: cs)) ⟨by kernel_rfl⟩ (fun w_ hM hS => ⟨w_, ⟨hM.ocell 1 rfl (hq43 0 _ rfl), rfl⟩, hM, trivial⟩) ?_
    refine oR [oF 3, oF 4] [(5, .bool x34), (4, vI i26), (3, .slice (some ⟨g13, 0, none⟩) l20.length l3.length), (17, .slice (some ⟨g42, 0, none⟩) b_0.length c_b_0), (18, vI (b_0.length : Int)), (19, vI i26)] [5, 4, 3, 17, 18, 19] (by kernel_rfl) ?_
    refine ops_nil ?_
    refine fin_then ?_
    refine st_seq ?_
    refine st_region [oF 0] (by rfl) ?_
    refine oR [oF 0] [(24, .bool x34), (4, vI i26), (3, .slice (some ⟨g13, 0, none⟩) l20.length l3.length), (17, .slice (some ⟨g42, 0, none⟩) b_0.length c_b_0), (18, vI (b_0.length : Int)), (19, vI i26)] [24, 4, 3, 17, 18, 19] (by kernel_rfl) ?_
    refine ops_nil ?_
    refine fin_then ?_
    refine st_if (b := x34) rfl (fun hc44 => ?_) (fun hc44 => ?_)
    · --
     have hp := cnd_t hc44 hp
     refine st_region_draw [oT 0, oT 1, oT 2, oT 3, oT 5, oT 6, oT 7, oF 4, oT 8, oT 9, oF 10] (Mem w0 (orow (some ⟨g42, 0, none⟩) b_0.length c_b_0 4 1 y24 :: .blk b_b [.slice (some ⟨g42, 0, none⟩) b_0.length c_b_0, vI b_1] 40 :: Fz F W :: cs)) (by kernel_rfl) (by kernel_rfl) (by kernel_rfl) (fun _ d _ _ _ h => by cases d <;> exact h) (M' := Mem w0 (orow (some ⟨g13, 0, none⟩) l20.length l3.length 5 1 y21 :: orow (some ⟨g42, 0, none⟩) b_0.length c_b_0 4 1 y24 :: .blk b_b [.slice (some ⟨g42, 0, none⟩) b_0.length c_b_0, vI b_1] 40 :: Fz F W :: cs)) (fun w_ hM => ⟨hM.drew, hM.drew.sub (.cons _ (.cons_cons _ (.cons_cons _ (.cons_cons _ (.refl _)))))⟩) ?_
     refine oR [oT 0, oT 1, oT 2] [(27, vI (IntKind.i64.wrap (Int.tdiv i26 8))), (25, .slice (some ⟨g13, 0, none⟩) l20.length l3.length), (4, vI i26), (3, .slice (some ⟨g13, 0, none⟩) l20.length l3.length), (17, .slice (some ⟨g42, 0, none⟩) b_0.length c_b_0), (18, vI (b_0.length : Int)), (19, vI i26)] [27, 25, 4, 3, 17, 18, 19] (by kernel_rfl) ?_
     obtain ⟨x45, hv46, hp⟩ := obind hp
     obtain ⟨m47, hm48, hx49⟩ := idx_some hv46
     have hl52 := (List.getElem?_eq_some_iff.1 hx49).1
     obtain ⟨vs50, hr51, hq53⟩ := h22.at_ m47 x45 hx49
     obtain rfl := hr51
     refine ops_val (op := (Go.Op.indexAddr 22 (Go.Operand.tmp 25) (Go.Operand.tmp 27))) (d := some 28) (v := vP g13 (m47 * 1)) ⟨by kernel_rfl⟩ (run_indexRow Try.underlying22 (z := 1) (by kernel_rfl) rfl rfl hm48 hl52 rfl) ?_
     refine oR [oT 5, oT 6] [(31, vI (Int.tmod i26 8)), (28, vP g13 (m47 * 1)), (27, vI (IntKind.i64.wrap (Int.tdiv i26 8))), (25, .slice (some ⟨g13, 0, none⟩) l20.length l3.length), (3, .slice (some ⟨g13, 0, none⟩) l20.length l3.length), (17, .slice (some ⟨g42, 0, none⟩) b_0.length c_b_0), (18, vI (b_0.length : Int)), (19, vI i26)] [31, 28, 27, 25, 3, 17, 18, 19] (by kernel_rfl) ?_
     obtain ⟨x54, hv55, hp⟩ := obind hp
     obtain ⟨hb56, he57⟩ := shl_some hv55
     refine ops_val (op := (Go.Op.binOp Go.BinOp.shl 5 (Go.Operand.const (Go.Value.int Go.IntKind.u8 1)) (Go.Operand.tmp 31) 3)) (d := some 32) (v := .int .u8 x54) ⟨by kernel_rfl⟩ (by rw [he57]; exact run_shl rfl rfl hb56) ?_
     refine oR [] [(32, .int .u8 x54), (28, vP g13 (m47 * 1)), (27, vI (IntKind.i64.wrap (Int.tdiv i26 8))), (25, .slice (some ⟨g13, 0, none⟩) l20.length l3.length), (3, .slice (some ⟨g13, 0, none⟩) l20.length l3.length), (17, .slice (some ⟨g42, 0, none⟩) b_0.length c_b_0), (18, vI (b_0.length : Int)), (19, vI i26)] [32, 28, 27, 25, 3, 17, 18, 19] (by kernel_rfl) ?_
     refine ops_mem (d := some 29) (an := [.v (.int .u8 x45)]) (evs := [.load ⟨g13, m47 * 1, none⟩ (.int .u8 x45)]) (v := .int .u8 x45) (M' := Mem w0 (orow (some ⟨g13, 0, none⟩) l20.length l3.length 5 1 y21 :: orow (some ⟨g42, 0, none⟩) b_0.length c_b_0 4 1 y24 :: .blk b_b [.slice (some ⟨g42, 0, none⟩) b_0.length c_b_0, vI b_1] 40 :: Fz F W :: cs)) ⟨by kernel_rfl⟩ (fun w_ hM hS => ⟨w_, ⟨hM.ocell 0 rfl (hq53 0 _ rfl), rfl⟩, hM, hS⟩) ?_
     refine oR [oT 8] [(33, .int .u8 (IntKind.u8.wrap (x45 + x54))), (27, vI (IntKind.i64.wrap (Int.tdiv i26 8))), (25, .slice (some ⟨g13, 0, none⟩) l20.length l3.length), (3, .slice (some ⟨g13, 0, none⟩) l20.length l3.length), (17, .slice (some ⟨g42, 0, none⟩) b_0.length c_b_0), (18, vI (b_0.length : Int)), (19, vI i26)] [33, 27, 25, 3, 17, 18, 19] (by kernel_rfl) ?_
     obtain ⟨x58, hv59, hp⟩ := obind hp
     obtain ⟨m60, hm61, hx62⟩ := idx_some hv59
     have hl65 := (List.getElem?_eq_some_iff.1 hx62).1
     obtain ⟨vs63, hr64, hq66⟩ := h22.at_ m60 x58 hx62
     obtain rfl := hr64
     refine ops_val (op := (Go.Op.indexAddr 22 (Go.Operand.tmp 25) (Go.Operand.tmp 27))) (d := some 34) (v := vP g13 (m60 * 1)) ⟨by kernel_rfl⟩ (run_indexRow Try.underlying22 (z := 1) (by kernel_rfl) rfl rfl hm61 hl65 rfl) ?_
     refine oR [] [(34, vP g13 (m60 * 1)), (33, .int .u8 (IntKind.u8.wrap (x45 + x54))), (3, .slice (some ⟨g13, 0, none⟩) l20.length l3.length), (17, .slice (some ⟨g42, 0, none⟩) b_0.length c_b_0), (18, vI (b_0.length : Int)), (19, vI i26)] [34, 33, 3, 17, 18, 19] (by kernel_rfl) ?_
     obtain ⟨l67, hv68, hp⟩ := obind hp
     obtain ⟨m69, hm70, hl71, he72⟩ := upd_some hv68
     obtain rfl : m60 = m69 := by have := hm61; omega
     have hl73 : l20.length = l67.length := by rw [he72, List.length_set]
     obtain ⟨y74, hy75⟩ : ∃ y_, setAll y21 (m60 * 1 + 0) [.int .u8 (IntKind.u8.wrap (x45 + x54))] = y_ := ⟨_, rfl⟩
     have h76 : RepL (Rep.int .u8) F W l67 y74 := by rw [he72, ← hy75]; exact RepL.set h22 (List.getElem?_eq_getElem hl71) (fun vs_ hr_ _ => by obtain rfl := hr_; exact ⟨rfl, Nat.le_of_ble_eq_true rfl⟩)
     refine ops_store (an := []) (evs := [.store ⟨g13, m60 * 1, none⟩ (.int .u8 (IntKind.u8.wrap (x45 + x54)))]) (M' := Mem w0 (orow (some ⟨g13, 0, none⟩) l67.length l3.length 5 1 y74 :: orow (some ⟨g42, 0, none⟩) b_0.length c_b_0 4 1 y24 :: .blk b_b [.slice (some ⟨g42, 0, none⟩) b_0.length c_b_0, vI b_1] 40 :: Fz F W :: cs)) ⟨by kernel_rfl⟩ (fun w_ hM hS => let ⟨w', he, h'⟩ := hM.ostore' 0 rfl (m60 * 1 + 0) [.int .u8 (IntKind.u8.wrap (x45 + x54))] (by have z_ : y21.length = l20.length * 1 := h22.len; have y_ : (m60 + 1) * 1 ≤ l20.length * 1 := Nat.mul_le_mul_right _ hl71; rw [Nat.add_mul] at y_; simp only [List.length_cons, List.length_nil]; omega) hl73 hy75; ⟨w', he, h', (by exact h'.sub (.cons _ (.cons_cons _ (.cons_cons _ (.cons_cons _ (.refl _))))))⟩) ?_
     refine ops_conv (l' := [(34, vP g13 (m60 * 1)), (33, .int .u8 (IntKind.u8.wrap (x45 + x54))), (3, .slice (some ⟨g13, 0, none⟩) l67.length l3.length), (17, .slice (some ⟨g42, 0, none⟩) b_0.length c_b_0), (18, vI (b_0.length : Int)), (19, vI i26)]) (M' := Mem w0 (orow (some ⟨g13, 0, none⟩) l67.length l3.length 5 1 y74 :: orow (some ⟨g42, 0, none⟩) b_0.length c_b_0 4 1 y24 :: .blk b_b [.slice (some ⟨g42, 0, none⟩) b_0.length c_b_0, vI b_1] 40 :: Fz F W :: cs)) (by first | rfl | rw [hl73]) (fun w_ hM => by first | exact hM | (rw [hl73] at hM; exact hM)) ?_
     refine oR [] [(3, .slice (some ⟨g13, 0, none⟩) l67.length l3.length), (17, .slice (some ⟨g42, 0, none⟩) b_0.length c_b_0), (18, vI (b_0.length : Int)), (19, vI i26)] [3, 17, 18, 19] (by kernel_rfl) ?_
     refine ops_nil ?_
     refine fin_block ?_
     exact fin_join HJ3 (l67, y74, (some ⟨g42, 0, none⟩), y24) ⟨hp, h76, h25⟩ (look_has ⟨rfl, rfl, rfl, rfl, trivial⟩) (fun w_ hM => hM)
    · --
     have hp := cnd_f hc44 hp
     refine st_skip ?_
     refine fin_block ?_
     exact fin_join HJ3 (l20, y21, (some ⟨g42, 0, none⟩), y24) ⟨hp, h22, h25⟩ (look_has ⟨rfl, rfl, rfl, rfl, trivial⟩) (fun w_ hM => hM)
  · --
   have hp := cnd_f hc27 hp
   refine st_exit ?_
   refine fin_exit_then ?_
   refine fin_exit_then ?_
   refine fin_exit ?_
   obtain hq_ := Option.some.inj hp
   subst hq_
   obtain hq_ := hd2 _ rfl
   subst hq_
   have hp : tourref1_Bits_Bytes_j1 l20 = some l9003 := hk2
   exact fin_join HJ1 (l20, y21, A23, y24) ⟨hp, h22, h25⟩ (look_has ⟨rfl, trivial⟩) (fun w_ hM => hM.pick 4 [0, 2, 1, 3] (by kernel_rfl) (by decide) rfl)
def tourlaw1_BitsWrites__t0 : List Row := [⟨0, 8388608, 64⟩, ⟨1, 16777216, 8388608⟩, ⟨2, 33554432, 16777216⟩, ⟨0, 67108864, 64⟩, ⟨8, 134217728, 67108864⟩, ⟨20, 268435456, 167772168⟩, ⟨0, 536870912, 16⟩, ⟨0, 1073741824, 64⟩, ⟨128, 2147483648, 1073741824⟩, ⟨256, 4294967296, 2147483648⟩, ⟨0, 8589934592, 64⟩, ⟨1024, 17179869184, 8589934592⟩, ⟨2656, 34359738368, 22011707392⟩, ⟨4159, 128, 268435456⟩, ⟨16383, 256, 34359738368⟩]
set_option maxHeartbeats 4000000 in
set_option maxRecDepth 100000 in
theorem tourlaw1_BitsWrites_ok (w0 w : World) (cs : List Chunk) (F : Nat → Prop) (W : World) (A_l : Option Addr) (c_l : Nat) (l : List (Int × Int × Int)) (hM0 : Mem w0 (Fz F W :: cs) w) (h_l : RdS R_arr3_Int F W A_l c_l l) (t9001 : Bool) (hp : tourlaw1_BitsWrites l = some t9001) : Calls Try.prog 4 #[.slice A_l l.length c_l] w fun e w' => (True) ∧ e = .returned (.bool t9001) ∧ Mem w0 (Fz F W :: cs) w' := by
 unfold tourlaw1_BitsWrites at hp
 refine sx_calls Try.func4 rfl (n := 74) (by kernel_rfl) (l := [(0, .slice A_l l.length c_l)]) rfl (by rfl) hM0 ?_
 refine st_seq ?_
 refine st_region [oF 0] (by rfl) ?_
 refine oR [oF 0] [(0, .slice A_l l.length c_l)] [0] (by kernel_rfl) ?_
 refine ops_nil ?_
 refine fin_then ?_
 refine st_seq ?_
 refine st_seq ?_
 refine st_region [oF 0, oF 1] (by rfl) ?_
 obtain ⟨x1, hv2, hp⟩ := obind hp
 refine ops_callI (σ := Unit) (d := some 9) (f := 24) (args := #[]) (v := (fun _ => .bool x1)) (I := (fun _ => True)) (M' := (fun _ => Mem w0 (Fz F W :: cs))) ⟨by kernel_rfl⟩ (fun w_ hM hS => (tourlaw1_bitsBegun_ok w0 w_ (cs) F W  hM  x1 hv2).mono (by rintro e w' ⟨-, rfl, h'⟩; have h' : Mem w0 (Fz F W :: cs) w' := h'; exact ⟨(), trivial, rfl, h', trivial⟩)) ?_
 rintro _ -
 refine ops_conv (l' := [(9, .bool x1), (0, .slice A_l l.length c_l)]) (M' := Mem w0 (Fz F W :: cs)) rfl (fun _ h => h) ?_
 refine oR [oF 1] [(10, .bool (!x1)), (0, .slice A_l l.length c_l)] [10, 0] (by kernel_rfl) ?_
 refine ops_nil ?_
 refine fin_then ?_
 refine st_if (b := !x1) rfl (fun hc3 => ?_) (fun hc3 => ?_)
 · --
  have hp := cnd_t hc3 hp
  refine st_seq ?_
  refine st_region [oF 0] (by rfl) ?_
  refine oR [oF 0] [(2, .bool false)] [2] (by kernel_rfl) ?_
  refine ops_nil ?_
  refine fin_then ?_
  refine st_ret ?_
  refine fin_ret_then ?_
  have hq_ := Option.some.inj hp
  have hr0_ := hq_
  subst hr0_
  refine fin_ret [.tmp 2] [.bool false] rfl rfl (fun w_ hM => (.tmp rfl .nil)) (fun w_ hM => ?_)
  exact ⟨trivial, rfl, hM⟩
 · --
  have hp := cnd_f hc3 hp
  refine st_skip ?_
  refine fin_then ?_
  refine st_seq ?_
  refine st_region [oF 0] (by rfl) ?_
  refine oR [] [(0, .slice A_l l.length c_l)] [0] (by kernel_rfl) ?_
  refine ops_new (d := some 3) (o := .cells #[.slice none 0 0, vI 0] 45) (v := fun b4 => vP b4 0) (M' := fun b4 => Mem w0 (.blk b4 [.slice none 0 0, vI 0] 45 :: Fz F W :: cs)) (fun b4 => ⟨by kernel_rfl⟩) (fun w_ hM hS => ⟨hM.blk [.slice none 0 0, vI 0] 45, trivial⟩) (fun b4 => ?_)
  refine ops_nil ?_
  refine fin_then ?_
  refine st_seq ?_
  refine st_region [oF 0, oF 1, oF 2] (by rfl) ?_
  refine oR [oF 0] [(11, .agg #[.slice none 0 0, vI 0]), (3, vP b4 0), (0, .slice A_l l.length c_l)] [11, 3, 0] (by kernel_rfl) ?_
  refine ops_new (d := some 12) (o := .cells #[.slice none 0 0, vI 0] 40) (v := fun b5 => vP b5 0) (M' := fun b5 => Mem w0 (.blk b5 [.slice none 0 0, vI 0] 40 :: .blk b4 [.slice none 0 0, vI 0] 45 :: Fz F W :: cs)) (fun b5 => ⟨by kernel_rfl⟩) (fun w_ hM hS => ⟨hM.blk [.slice none 0 0, vI 0] 40, trivial⟩) (fun b5 => ?_)
  refine oR [oF 2] [(4, vP b5 0), (3, vP b4 0), (0, .slice A_l l.length c_l)] [4, 3, 0] (by kernel_rfl) ?_
  refine ops_nil ?_
  refine fin_then ?_
  refine st_join1 (σ := (Option Addr) × Nat × (List Int) × (List Value) × Int × (Option Addr) × Nat × (List Bool) × (List Value)) (L := fun x_ => match x_ with | (A6, c7, l8, y9, i11, A12, c13, l14, y15) => [(3, vP b4 0), (4, vP b5 0)]) (N := fun x_ => match x_ with | (A6, c7, l8, y9, i11, A12, c13, l14, y15) => Mem w0 (.blk b4 [.slice A6 l8.length c7, vI i11] 45 :: orow A6 l8.length c7 5 1 y9 :: .blk b5 [.slice A12 l14.length c13, vI 0] 40 :: orow A12 l14.length c13 4 1 y15 :: Fz F W :: cs)) (I := fun x_ => match x_ with | (A6, c7, l8, y9, i11, A12, c13, l14, y15) => (tourlaw1_BitsWrites_j1 l8 i11 l14 = some t9001) ∧ (RepL (Rep.int .u8) F W l8 y9) ∧ (RepL Rep.bool F W l14 y15)) ?_ ?_
  · --
   rintro ⟨A6, c7, l8, y9, i11, A12, c13, l14, y15⟩ ⟨hp, h10, h16⟩
   refine st_conv (l' := [(3, vP b4 0), (4, vP b5 0)]) (M' := Mem w0 (.blk b4 [.slice A6 l8.length c7, vI i11] 45 :: orow A6 l8.length c7 5 1 y9 :: .blk b5 [.slice A12 l14.length c13, vI 0] 40 :: orow A12 l14.length c13 4 1 y15 :: Fz F W :: cs)) rfl (fun _ h => h) ?_
   unfold tourlaw1_BitsWrites_j1 at hp
   refine st_seq ?_
   refine st_region [oF 0, oF 1, oF 2, oF 3, oF 4] (by rfl) ?_
   obtain ⟨x17, hv18, hp⟩ := obind hp
   refine ops_callI (σ := (Option Addr) × Nat × (List Value) × (List Value)) (d := some 70) (f := 33) (args := #[vP b4 0]) (v := (fun x_ => match x_ with | (A19, c20, y21, y22) => .slice A19 x17.length c20)) (I := (fun x_ => match x_ with | (A19, c20, y21, y22) => (RepL (Rep.int .u8) F W x17 y21) ∧ (RepL (Rep.int .u8) F W l8 y22))) (M' := (fun x_ => match x_ with | (A19, c20, y21, y22) => Mem w0 (orow A19 x17.length c20 5 1 y21 :: orow A6 l8.length c7 5 1 y22 :: .blk b4 [.slice A6 l8.length c7, vI i11] 45 :: .blk b5 [.slice A12 l14.length c13, vI 0] 40 :: orow A12 l14.length c13 4 1 y15 :: Fz F W :: cs))) ⟨by kernel_rfl⟩ (fun w_ hM hS => (bits_Writer_Bytes_ok w0 w_ (.blk b5 [.slice A12 l14.length c13, vI 0] 40 :: orow A12 l14.length c13 4 1 y15 :: cs) F W b4 A6 c7 l8 y9 i11 (hM.pick 5 [0, 1, 4, 2, 3] (by kernel_rfl) (by decide) rfl) h10 x17 hv18).mono (by rintro e w' ⟨A19, c20, y21, y22, ⟨h23, h24⟩, rfl, h'⟩; have h' : Mem w0 (orow A19 x17.length c20 5 1 y21 :: orow A6 l8.length c7 5 1 y22 :: .blk b4 [.slice A6 l8.length c7, vI i11] 45 :: .blk b5 [.slice A12 l14.length c13, vI 0] 40 :: orow A12 l14.length c13 4 1 y15 :: Fz F W :: cs) w' := (h'.pick 6 [0, 2, 1, 4, 5, 3] (by kernel_rfl) (by decide) rfl); exact ⟨(A19, c20, y21, y22), ⟨h23, h24⟩, rfl, h', trivial⟩)) ?_
   rintro ⟨A19, c20, y21, y22⟩ ⟨h23, h24⟩
   refine ops_conv (l' := [(70, .slice A19 x17.length c20), (3, vP b4 0), (4, vP b5 0)]) (M' := Mem w0 (orow A19 x17.length c20 5 1 y21 :: orow A6 l8.length c7 5 1 y22 :: .blk b4 [.slice A6 l8.length c7, vI i11] 45 :: .blk b5 [.slice A12 l14.length c13, vI 0] 40 :: orow A12 l14.length c13 4 1 y15 :: Fz F W :: cs)) rfl (fun _ h => h) ?_
   refine oR [oF 1] [(71, vP b5 0), (70, .slice A19 x17.length c20)] [71, 70] (by kernel_rfl) ?_
   obtain ⟨x25, hv26, hp⟩ := obind hp
   refine ops_callI (σ := (Option Addr) × Nat × (List Value) × (Option Addr) × (List Value)) (d := some 72) (f := 34) (args := #[vP b5 0]) (v := (fun x_ => match x_ with | (A27, c28, y29, A30, y31) => .slice A27 x25.length c28)) (I := (fun x_ => match x_ with | (A27, c28, y29, A30, y31) => (RepL (Rep.int .u8) F W x25 y29) ∧ (RepL Rep.bool F W l14 y31))) (M' := (fun x_ => match x_ with | (A27, c28, y29, A30, y31) => Mem w0 (orow A27 x25.length c28 5 1 y29 :: orow A30 l14.length c13 4 1 y31 :: orow A19 x17.length c20 5 1 y21 :: orow A6 l8.length c7 5 1 y22 :: .blk b4 [.slice A6 l8.length c7, vI i11] 45 :: .blk b5 [.slice A30 l14.length c13, vI 0] 40 :: Fz F W :: cs))) ⟨by kernel_rfl⟩ (fun w_ hM hS => (tourref1_Bits_Bytes_ok w0 w_ (orow A19 x17.length c20 5 1 y21 :: orow A6 l8.length c7 5 1 y22 :: .blk b4 [.slice A6 l8.length c7, vI i11] 45 :: cs) F W b5 A12 c13 l14 y15 0 (hM.pick 6 [3, 4, 5, 0, 1, 2] (by kernel_rfl) (by decide) rfl) h16 x25 hv26).mono (by rintro e w' ⟨A27, c28, y29, A30, y31, ⟨h32, h33⟩, rfl, h'⟩; have h' : Mem w0 (orow A27 x25.length c28 5 1 y29 :: orow A30 l14.length c13 4 1 y31 :: orow A19 x17.length c20 5 1 y21 :: orow A6 l8.length c7 5 1 y22 :: .blk b4 [.slice A6 l8.length c7, vI i11] 45 :: .blk b5 [.slice A30 l14.length c13, vI 0] 40 :: Fz F W :: cs) w' := (h'.pick 7 [0, 2, 4, 5, 6, 1, 3] (by kernel_rfl) (by decide) rfl); exact ⟨(A27, c28, y29, A30, y31), ⟨h32, h33⟩, rfl, h', trivial⟩)) ?_
   rintro ⟨A27, c28, y29, A30, y31⟩ ⟨h32, h33⟩
   refine ops_conv (l' := [(72, .slice A27 x25.length c28), (71, vP b5 0), (70, .slice A19 x17.length c20)]) (M' := Mem w0 (orow A27 x25.length c28 5 1 y29 :: orow A30 l14.length c13 4 1 y31 :: orow A19 x17.length c20 5 1 y21 :: orow A6 l8.length c7 5 1 y22 :: .blk b4 [.slice A6 l8.length c7, vI i11] 45 :: .blk b5 [.slice A30 l14.length c13, vI 0] 40 :: Fz F W :: cs)) rfl (fun _ h => h) ?_
   refine oR [] [(72, .slice A27 x25.length c28), (70, .slice A19 x17.length c20)] [72, 70] (by kernel_rfl) ?_
   obtain ⟨x34, hv35, hp⟩ := obind hp
   refine ops_callI (σ := Unit) (d := some 73) (f := 32) (args := #[.slice A19 x17.length c20, .slice A27 x25.length c28]) (v := (fun _ => .bool x34)) (I := (fun _ => True)) (M' := (fun _ => Mem w0 (orow A27 x25.length c28 5 1 y29 :: orow A30 l14.length c13 4 1 y31 :: orow A19 x17.length c20 5 1 y21 :: orow A6 l8.length c7 5 1 y22 :: .blk b4 [.slice A6 l8.length c7, vI i11] 45 :: .blk b5 [.slice A30 l14.length c13, vI 0] 40 :: Fz F W :: cs))) ⟨by kernel_rfl⟩ (fun w_ hM hS => (slices_Equal_byte_byte_ok w_ w_ [] (fun b => b < w_.heap.size) w_ A19 c20 x17 A27 c28 x25 (Mem.fz0 w_) (hM.ordS 2 6 rfl rfl h23 rfl rfl) (hM.ordS 0 6 rfl rfl h32 rfl rfl) x34 hv35).mono (by rintro e w' ⟨-, rfl, h'⟩; have h' : Mem w_ [] w' := h'.pick 1 [] (by kernel_rfl) (by decide) rfl; exact ⟨(), trivial, rfl, hM.join h' rfl, trivial⟩)) ?_
   rintro _ -
   refine ops_conv (l' := [(73, .bool x34), (72, .slice A27 x25.length c28), (70, .slice A19 x17.length c20)]) (M' := Mem w0 (orow A27 x25.length c28 5 1 y29 :: orow A30 l14.length c13 4 1 y31 :: orow A19 x17.length c20 5 1 y21 :: orow A6 l8.length c7 5 1 y22 :: .blk b4 [.slice A6 l8.length c7, vI i11] 45 :: .blk b5 [.slice A30 l14.length c13, vI 0] 40 :: Fz F W :: cs)) rfl (fun _ h => h) ?_
   refine oR [oF 4] [(2, .bool x34)] [2] (by kernel_rfl) ?_
   refine ops_nil ?_
   refine fin_then ?_
   refine st_ret ?_
   have hq_ := Option.some.inj hp
   have hr0_ := hq_
   subst hr0_
   refine fin_ret [.tmp 2] [.bool x34] rfl rfl (fun w_ hM => (.tmp rfl .nil)) (fun w_ hM => ?_)
   exact ⟨trivial, rfl, hM.pick 7 [6] (by kernel_rfl) (by decide) rfl⟩
  · --
   intro HJ1
   refine st_seq ?_
   refine st_seq ?_
   refine st_region [oF 0, oF 1, oF 2] (by rfl) ?_
   refine oR [oF 0, oF 1, oF 2] [(15, vI 0), (14, vI (l.length : Int)), (13, .slice A_l l.length c_l), (4, vP b5 0), (3, vP b4 0)] [15, 14, 13, 4, 3] (by kernel_rfl) ?_
   refine ops_nil ?_
   refine fin_then ?_
   refine st_block ?_
   refine st_conv (l' := [(15, vI 0), (14, vI (l.length : Int)), (13, .slice A_l l.length c_l), (4, vP b5 0), (3, vP b4 0)]) (M' := Mem w0 (orow none ([] : List Int).length 0 5 1 [] :: .blk b5 [.slice none 0 0, vI 0] 40 :: .blk b4 [.slice none 0 0, vI 0] 45 :: Fz F W :: cs)) rfl (fun w_ h => h.onil none 5 1) ?_
   refine st_conv (l' := [(15, vI 0), (14, vI (l.length : Int)), (13, .slice A_l l.length c_l), (4, vP b5 0), (3, vP b4 0)]) (M' := Mem w0 (orow none ([] : List Bool).length 0 4 1 [] :: orow none ([] : List Int).length 0 5 1 [] :: .blk b5 [.slice none 0 0, vI 0] 40 :: .blk b4 [.slice none ([] : List Int).length 0, vI 0] 45 :: Fz F W :: cs)) rfl (fun w_ h => h.onil none 4 1) ?_
   refine st_conv (l' := [(15, vI 0), (14, vI (l.length : Int)), (13, .slice A_l l.length c_l), (4, vP b5 0), (3, vP b4 0)]) (M' := Mem w0 (orow none ([] : List Bool).length 0 4 1 [] :: orow none ([] : List Int).length 0 5 1 [] :: .blk b5 [.slice none ([] : List Bool).length 0, vI 0] 40 :: .blk b4 [.slice none ([] : List Int).length 0, vI 0] 45 :: Fz F W :: cs)) rfl (fun _ h => h) ?_
   obtain ⟨r2, hl2, hk2⟩ := obind hp
   refine st_loopP (σ := (List Int) × Int × (List Bool) × Int) (ρ := (Bool ⊕ (List Int) × Int × (List Bool))) (γ := (Option Addr) × Nat × (List Value) × (Option Addr) × Nat × (List Value)) hl2 (none, 0, [], none, 0, []) (fun s_ g_ => match s_, g_ with | (l44, i47, l50, i53), (A42, c43, y45, A48, c49, y51) => [(3, vP b4 0), (4, vP b5 0), (13, .slice A_l l.length c_l), (14, vI (l.length : Int)), (15, vI i53)]) (fun s_ g_ => match s_, g_ with | (l44, i47, l50, i53), (A42, c43, y45, A48, c49, y51) => Mem w0 (.blk b4 [.slice A42 l44.length c43, vI i47] 45 :: orow A42 l44.length c43 5 1 y45 :: .blk b5 [.slice A48 l50.length c49, vI 0] 40 :: orow A48 l50.length c49 4 1 y51 :: Fz F W :: cs)) (fun s_ g_ => match s_, g_ with | (l44, i47, l50, i53), (A42, c43, y45, A48, c49, y51) => (RepL (Rep.int .u8) F W l44 y45) ∧ (RepL Rep.bool F W l50 y51)) ⟨(RepL.nil (R := (Rep.int .u8))), (RepL.nil (R := Rep.bool))⟩ (look_has ⟨rfl, rfl, rfl, rfl, rfl, trivial⟩) (fun w_ hM => hM.pick 5 [3, 1, 2, 0, 4] (by kernel_rfl) (by decide) rfl) ?_
   rintro ⟨l44, i47, l50, i53⟩ ⟨A42, c43, y45, A48, c49, y51⟩ o2 ⟨h46, h52⟩ hs_ hd2
   have hp : (tourlaw1_BitsWrites_l2 l) l44 i47 l50 i53 = some o2 := hs_
   clear hs_
   unfold tourlaw1_BitsWrites_l2 at hp
   refine st_conv (l' := [(3, vP b4 0), (4, vP b5 0), (13, .slice A_l l.length c_l), (14, vI (l.length : Int)), (15, vI i53)]) (M' := Mem w0 (.blk b4 [.slice A42 l44.length c43, vI i47] 45 :: orow A42 l44.length c43 5 1 y45 :: .blk b5 [.slice A48 l50.length c49, vI 0] 40 :: orow A48 l50.length c49 4 1 y51 :: Fz F W :: cs)) rfl (fun _ h => h) ?_
   refine st_seq ?_
   refine st_region [oF 0] (by rfl) ?_
   refine oR [oF 0] [(16, .bool (decide (i53 < (l.length : Int)))), (3, vP b4 0), (4, vP b5 0), (13, .slice A_l l.length c_l), (14, vI (l.length : Int)), (15, vI i53)] [16, 3, 4, 13, 14, 15] (by kernel_rfl) ?_
   refine ops_nil ?_
   refine fin_then ?_
   refine st_seq ?_
   refine st_if (b := decide (i53 < (l.length : Int))) rfl (fun hc54 => ?_) (fun hc54 => ?_)
   · --
    have hp := cnd_t hc54 hp
    refine st_skip ?_
    refine fin_then ?_
    refine st_seq ?_
    refine st_block ?_
    refine st_seq ?_
    refine st_region [oF 0, oF 1, oF 2, oF 3] (by rfl) ?_
    refine oR [] [(3, vP b4 0), (4, vP b5 0), (13, .slice A_l l.length c_l), (14, vI (l.length : Int)), (15, vI i53)] [3, 4, 13, 14, 15] (by kernel_rfl) ?_
    obtain ⟨x55, hv56, hp⟩ := obind hp
    obtain ⟨m57, hm58, hx59⟩ := idx_some hv56
    have hl62 := (List.getElem?_eq_some_iff.1 hx59).1
    obtain ⟨ad63, vs60, hA64, hr61, hq65⟩ := RdS.el h_l hx59
    obtain rfl := dec_arr3_Int hr61
    refine ops_val (op := (Go.Op.indexAddr 42 (Go.Operand.tmp 13) (Go.Operand.tmp 15))) (d := some 17) (v := .pointer (some (ad63.add (m57 * 3)))) ⟨by kernel_rfl⟩ (run_indexA hA64 Try.underlying42 (z := 3) (by kernel_rfl) rfl rfl hm58 hl62) ?_
    refine ops_mem (d := some 18) (an := [.v (vI x55.1), .v (vI x55.2.1), .v (vI x55.2.2)]) (evs := [.load (ad63.add (m57 * 3)) (vI x55.1), .load ((ad63.add (m57 * 3)).add 1) (vI x55.2.1), .load ((ad63.add (m57 * 3)).add 2) (vI x55.2.2)]) (v := .agg #[vI x55.1, vI x55.2.1, vI x55.2.2]) (M' := Mem w0 (.blk b4 [.slice A42 l44.length c43, vI i47] 45 :: orow A42 l44.length c43 5 1 y45 :: .blk b5 [.slice A48 l50.length c49, vI 0] 40 :: orow A48 l50.length c49 4 1 y51 :: Fz F W :: cs)) ⟨by kernel_rfl⟩ (fun w_ hM hS => ⟨w_, ⟨hM.elcell 4 rfl hq65 0 rfl, hM.elcell 4 rfl hq65 1 rfl, hM.elcell 4 rfl hq65 2 rfl, rfl⟩, hM, trivial⟩) ?_
    refine oR [] [(18, .agg #[vI x55.1, vI x55.2.1, vI x55.2.2]), (3, vP b4 0), (4, vP b5 0), (13, .slice A_l l.length c_l), (14, vI (l.length : Int)), (15, vI i53)] [18, 3, 4, 13, 14, 15] (by kernel_rfl) ?_
    refine ops_new (d := some 6) (o := .cells #[vI 0, vI 0, vI 0] 46) (v := fun b66 => vP b66 0) (M' := fun b66 => Mem w0 (.blk b66 [vI 0, vI 0, vI 0] 46 :: .blk b4 [.slice A42 l44.length c43, vI i47] 45 :: orow A42 l44.length c43 5 1 y45 :: .blk b5 [.slice A48 l50.length c49, vI 0] 40 :: orow A48 l50.length c49 4 1 y51 :: Fz F W :: cs)) (fun b66 => ⟨by kernel_rfl⟩) (fun w_ hM hS => ⟨hM.blk [vI 0, vI 0, vI 0] 46, trivial⟩) (fun b66 => ?_)
    refine ops_store (an := []) (evs := [.store ⟨b66, 0, none⟩ (vI x55.1), .store ⟨b66, 1, none⟩ (vI x55.2.1), .store ⟨b66, 2, none⟩ (vI x55.2.2)]) (M' := Mem w0 (.blk b66 [vI x55.1, vI x55.2.1, vI x55.2.2] 46 :: .blk b4 [.slice A42 l44.length c43, vI i47] 45 :: orow A42 l44.length c43 5 1 y45 :: .blk b5 [.slice A48 l50.length c49, vI 0] 40 :: orow A48 l50.length c49 4 1 y51 :: Fz F W :: cs)) ⟨by kernel_rfl⟩ (fun w_ hM hS => let ⟨w', he, h'⟩ := hM.evs_stores [vI x55.1, vI x55.2.1, vI x55.2.2] 0 rfl 0 (Nat.le_of_ble_eq_true rfl); ⟨w', he, h', trivial⟩) ?_
    refine oR [] [(6, vP b66 0), (3, vP b4 0), (4, vP b5 0), (13, .slice A_l l.length c_l), (14, vI (l.length : Int)), (15, vI i53)] [6, 3, 4, 13, 14, 15] (by kernel_rfl) ?_
    refine ops_nil ?_
    refine fin_then ?_
    refine st_seq ?_
    refine st_region [oF 0, oF 1] (by rfl) ?_
    refine oR [oF 0, oF 1] [(8, vI 0), (7, vI 0), (6, vP b66 0), (3, vP b4 0), (4, vP b5 0), (13, .slice A_l l.length c_l), (14, vI (l.length : Int)), (15, vI i53)] [8, 7, 6, 3, 4, 13, 14, 15] (by kernel_rfl) ?_
    refine ops_nil ?_
    refine fin_then ?_
    refine st_join1 (σ := (Option Addr) × Nat × (List Int) × (List Value) × Int × (Option Addr) × Nat × (List Bool) × (List Value) × Int × Int) (L := fun x_ => match x_ with | (A67, c68, l69, y70, i72, A73, c74, l75, y76, i78, i79) => [(3, vP b4 0), (4, vP b5 0), (7, vI i78), (8, vI i79), (13, .slice A_l l.length c_l), (14, vI (l.length : Int)), (15, vI i53)]) (N := fun x_ => match x_ with | (A67, c68, l69, y70, i72, A73, c74, l75, y76, i78, i79) => Mem w0 (.blk b4 [.slice A67 l69.length c68, vI i72] 45 :: orow A67 l69.length c68 5 1 y70 :: .blk b5 [.slice A73 l75.length c74, vI 0] 40 :: orow A73 l75.length c74 4 1 y76 :: Fz F W :: cs)) (I := fun x_ => match x_ with | (A67, c68, l69, y70, i72, A73, c74, l75, y76, i78, i79) => ((tourlaw1_BitsWrites_j3 i53) l69 i72 l75 i78 i79 = some o2) ∧ (RepL (Rep.int .u8) F W l69 y70) ∧ (RepL Rep.bool F W l75 y76)) ?_ ?_
    · --
     rintro ⟨A67, c68, l69, y70, i72, A73, c74, l75, y76, i78, i79⟩ ⟨hp, h71, h77⟩
     refine st_conv (l' := [(3, vP b4 0), (4, vP b5 0), (7, vI i78), (8, vI i79), (13, .slice A_l l.length c_l), (14, vI (l.length : Int)), (15, vI i53)]) (M' := Mem w0 (.blk b4 [.slice A67 l69.length c68, vI i72] 45 :: orow A67 l69.length c68 5 1 y70 :: .blk b5 [.slice A73 l75.length c74, vI 0] 40 :: orow A73 l75.length c74 4 1 y76 :: Fz F W :: cs)) rfl (fun _ h => h) ?_
     unfold tourlaw1_BitsWrites_j3 at hp
     refine st_seq ?_
     refine st_region_draw [oT 0, oT 1, oT 2, oT 3, oT 5, oT 6, oT 7, oT 8, oT 9, oF 4, oT 10, oT 11] (Mem w0 (.blk b5 [.slice A73 l75.length c74, vI 0] 40 :: orow A73 l75.length c74 4 1 y76 :: Fz F W :: cs)) (by kernel_rfl) (by kernel_rfl) (by kernel_rfl) (fun _ d _ _ _ h => by cases d <;> exact h) (M' := Mem w0 (.blk b4 [.slice A67 l69.length c68, vI i72] 45 :: orow A67 l69.length c68 5 1 y70 :: .blk b5 [.slice A73 l75.length c74, vI 0] 40 :: orow A73 l75.length c74 4 1 y76 :: Fz F W :: cs)) (fun w_ hM => ⟨hM.drew, hM.drew.sub (.cons _ (.cons _ (.cons_cons _ (.cons_cons _ (.cons_cons _ (.refl _))))))⟩) ?_
     refine oR [oT 0, oT 1, oT 2, oT 3] [(60, .bool (!(i78 == i79))), (3, vP b4 0), (4, vP b5 0), (13, .slice A_l l.length c_l), (14, vI (l.length : Int)), (15, vI i53)] [60, 3, 4, 13, 14, 15] (by kernel_rfl) ?_
     refine ops_bool (t := !(i78 == i79)) (l1 := [(60, .bool true), (3, vP b4 0), (4, vP b5 0), (13, .slice A_l l.length c_l), (14, vI (l.length : Int)), (15, vI i53)]) (l2 := [(60, .bool false), (3, vP b4 0), (4, vP b5 0), (13, .slice A_l l.length c_l), (14, vI (l.length : Int)), (15, vI i53)]) (fun h => by rw [h]) (fun h => by rw [h]) (fun hc80 => ?_) (fun hc80 => ?_)
     · --
      have hp := cnd_t hc80 hp
      refine oR [oT 5, oT 6, oT 7, oT 8, oT 9, oF 4, oT 10, oT 11] [(68, .bool true), (3, vP b4 0), (4, vP b5 0), (13, .slice A_l l.length c_l), (14, vI (l.length : Int)), (15, vI i53)] [68, 3, 4, 13, 14, 15] (by kernel_rfl) ?_
      refine ops_nil ?_
      refine fin_then ?_
      refine st_true rfl ?_
      refine st_seq ?_
      refine st_region [oF 0] (by rfl) ?_
      refine oR [oF 0] [(2, .bool false)] [2] (by kernel_rfl) ?_
      refine ops_nil ?_
      refine fin_then ?_
      refine st_ret ?_
      refine fin_ret_block ?_
      refine fin_ret_then ?_
      refine fin_ret_then ?_
      refine fin_ret_block ?_
      refine fin_ret_then ?_
      obtain hq_ := Option.some.inj hp
      subst hq_
      obtain hq_ := hd2 _ rfl
      subst hq_
      have hp : some false = some t9001 := hk2
      have hq_ := Option.some.inj hp
      have hr0_ := hq_
      subst hr0_
      refine fin_ret [.tmp 2] [.bool false] rfl rfl (fun w_ hM => (.tmp rfl .nil)) (fun w_ hM => ?_)
      exact ⟨trivial, rfl, hM.pick 5 [4] (by kernel_rfl) (by decide) rfl⟩
     · --
      have hp := cnd_f hc80 hp
      refine oR [oT 5, oT 6, oT 7] [(64, vP b5 0), (60, .bool false), (3, vP b4 0), (4, vP b5 0), (13, .slice A_l l.length c_l), (14, vI (l.length : Int)), (15, vI i53)] [64, 60, 3, 4, 13, 14, 15] (by kernel_rfl) ?_
      refine ops_load (d := some 65) (an := [.v (.slice A73 l75.length c74)]) (evs := [.load ⟨b5, 0, none⟩ (.slice A73 l75.length c74)]) (v := .slice A73 l75.length c74) ⟨by kernel_rfl⟩ (fun w_ hM => ⟨hM.cell 0 rfl rfl, rfl⟩) ?_
      refine oR [oT 9] [(66, vI (l75.length : Int)), (60, .bool false), (3, vP b4 0), (4, vP b5 0), (13, .slice A_l l.length c_l), (14, vI (l.length : Int)), (15, vI i53)] [66, 60, 3, 4, 13, 14, 15] (by kernel_rfl) ?_
      obtain ⟨_, hv81, hp⟩ := obind hp
      refine ops_callI (σ := (List Value)) (d := some 61) (f := 31) (args := #[vP b4 0]) (v := (fun x_ => match x_ with | y82 => vI i72)) (I := (fun x_ => match x_ with | y82 => (RepL (Rep.int .u8) F W l69 y82))) (M' := (fun x_ => match x_ with | y82 => Mem w0 (orow A67 l69.length c68 5 1 y82 :: .blk b4 [.slice A67 l69.length c68, vI i72] 45 :: .blk b5 [.slice A73 l75.length c74, vI 0] 40 :: orow A73 l75.length c74 4 1 y76 :: Fz F W :: cs))) ⟨by kernel_rfl⟩ (fun w_ hM hS => (bits_Writer_Len_ok w0 w_ (.blk b5 [.slice A73 l75.length c74, vI 0] 40 :: orow A73 l75.length c74 4 1 y76 :: cs) F W b4 A67 c68 l69 y70 i72 (hM.pick 5 [0, 1, 4, 2, 3] (by kernel_rfl) (by decide) rfl) h71  hv81).mono (by rintro e w' ⟨y82, h83, rfl, h'⟩; have h' : Mem w0 (orow A67 l69.length c68 5 1 y82 :: .blk b4 [.slice A67 l69.length c68, vI i72] 45 :: .blk b5 [.slice A73 l75.length c74, vI 0] 40 :: orow A73 l75.length c74 4 1 y76 :: Fz F W :: cs) w' := (h'.pick 5 [1, 0, 3, 4, 2] (by kernel_rfl) (by decide) rfl); exact ⟨y82, h83, rfl, h', (by exact h'.sub (.cons _ (.cons _ (.cons_cons _ (.cons_cons _ (.cons_cons _ (.refl _)))))))⟩)) ?_
      rintro y82 h83
      refine ops_conv (l' := [(61, vI i72), (66, vI (l75.length : Int)), (60, .bool false), (3, vP b4 0), (4, vP b5 0), (13, .slice A_l l.length c_l), (14, vI (l.length : Int)), (15, vI i53)]) (M' := Mem w0 (orow A67 l69.length c68 5 1 y82 :: .blk b4 [.slice A67 l69.length c68, vI i72] 45 :: .blk b5 [.slice A73 l75.length c74, vI 0] 40 :: orow A73 l75.length c74 4 1 y76 :: Fz F W :: cs)) rfl (fun _ h => h) ?_
      refine oR [oT 10, oT 11] [(68, .bool (!(i72 == (l75.length : Int)))), (3, vP b4 0), (4, vP b5 0), (13, .slice A_l l.length c_l), (14, vI (l.length : Int)), (15, vI i53)] [68, 3, 4, 13, 14, 15] (by kernel_rfl) ?_
      refine ops_nil ?_
      refine fin_then ?_
      refine st_if (b := !(i72 == (l75.length : Int))) rfl (fun hc84 => ?_) (fun hc84 => ?_)
      · --
       have hp := cnd_t hc84 hp
       refine st_seq ?_
       refine st_region [oF 0] (by rfl) ?_
       refine oR [oF 0] [(2, .bool false)] [2] (by kernel_rfl) ?_
       refine ops_nil ?_
       refine fin_then ?_
       refine st_ret ?_
       refine fin_ret_block ?_
       refine fin_ret_then ?_
       refine fin_ret_then ?_
       refine fin_ret_block ?_
       refine fin_ret_then ?_
       obtain hq_ := Option.some.inj hp
       subst hq_
       obtain hq_ := hd2 _ rfl
       subst hq_
       have hp : some false = some t9001 := hk2
       have hq_ := Option.some.inj hp
       have hr0_ := hq_
       subst hr0_
       refine fin_ret [.tmp 2] [.bool false] rfl rfl (fun w_ hM => (.tmp rfl .nil)) (fun w_ hM => ?_)
       exact ⟨trivial, rfl, hM.pick 5 [4] (by kernel_rfl) (by decide) rfl⟩
      · --
       have hp := cnd_f hc84 hp
       refine st_skip ?_
       refine fin_block ?_
       refine fin_then ?_
       refine st_region [oF 0, oF 1] (by rfl) ?_
       refine oR [oF 0, oF 1] [(15, vI (IntKind.i64.wrap (i53 + 1))), (3, vP b4 0), (4, vP b5 0), (13, .slice A_l l.length c_l), (14, vI (l.length : Int))] [15, 3, 4, 13, 14] (by kernel_rfl) ?_
       refine ops_nil ?_
       exact fin_again (l69, i72, l75, IntKind.i64.wrap (i53 + 1)) (A67, c68, y82, A73, c74, y76) (Option.some.inj hp).symm ⟨h83, h77⟩ (look_has ⟨rfl, rfl, rfl, rfl, rfl, trivial⟩) (fun w_ hM => hM.pick 5 [1, 0, 2, 3, 4] (by kernel_rfl) (by decide) rfl)
    · --
     intro HJ3
     refine st_seq ?_
     refine st_seq ?_
     refine st_region [oF 0, oF 1] (by rfl) ?_
     refine oR [oF 0] [(19, vP b66 2), (8, vI 0), (7, vI 0), (6, vP b66 0), (3, vP b4 0), (4, vP b5 0), (13, .slice A_l l.length c_l), (14, vI (l.length : Int)), (15, vI i53)] [19, 8, 7, 6, 3, 4, 13, 14, 15] (by kernel_rfl) ?_
     refine ops_mem (d := some 20) (an := [.v (vI x55.2.2)]) (evs := [.load ⟨b66, 2, none⟩ (vI x55.2.2)]) (v := vI x55.2.2) (M' := Mem w0 (.blk b66 [vI x55.1, vI x55.2.1, vI x55.2.2] 46 :: .blk b4 [.slice A42 l44.length c43, vI i47] 45 :: orow A42 l44.length c43 5 1 y45 :: .blk b5 [.slice A48 l50.length c49, vI 0] 40 :: orow A48 l50.length c49 4 1 y51 :: Fz F W :: cs)) ⟨by kernel_rfl⟩ (fun w_ hM hS => ⟨w_, ⟨hM.cell 0 rfl rfl, rfl⟩, hM, trivial⟩) ?_
     refine oR [] [(20, vI x55.2.2), (8, vI 0), (7, vI 0), (6, vP b66 0), (3, vP b4 0), (4, vP b5 0), (13, .slice A_l l.length c_l), (14, vI (l.length : Int)), (15, vI i53)] [20, 8, 7, 6, 3, 4, 13, 14, 15] (by kernel_rfl) ?_
     refine ops_nil ?_
     refine fin_then ?_
     refine st_block ?_
     refine st_seq ?_
     refine st_region [oF 0, oF 1] (by rfl) ?_
     refine oR [oF 0, oF 1] [(21, .bool (x55.2.2 == 0)), (20, vI x55.2.2), (8, vI 0), (7, vI 0), (6, vP b66 0), (3, vP b4 0), (4, vP b5 0), (13, .slice A_l l.length c_l), (14, vI (l.length : Int)), (15, vI i53)] [21, 20, 8, 7, 6, 3, 4, 13, 14, 15] (by kernel_rfl) ?_
     refine ops_nil ?_
     refine fin_then ?_
     refine st_if (b := (x55.2.2 == 0)) rfl (fun hc85 => ?_) (fun hc85 => ?_)
     · --
      have hp := cnd_t hc85 hp
      refine st_region_fast tourlaw1_BitsWrites__t0 [oT 0, oT 1, oT 2, oT 3, oT 4, oT 6, oT 7, oT 8, oT 9, oT 10, oT 11, oF 5, oF 12, oT 13, oT 14] (Mem w0 (.blk b66 [vI x55.1, vI x55.2.1, vI x55.2.2] 46 :: Fz F W :: cs)) (by kernel_rfl) (by kernel_rfl) (by kernel_rfl) (by kernel_rfl) (by kernel_rfl) (fun _ d _ _ _ h => by cases d <;> exact h) (M' := Mem w0 (.blk b66 [vI x55.1, vI x55.2.1, vI x55.2.2] 46 :: .blk b4 [.slice A42 l44.length c43, vI i47] 45 :: orow A42 l44.length c43 5 1 y45 :: .blk b5 [.slice A48 l50.length c49, vI 0] 40 :: orow A48 l50.length c49 4 1 y51 :: Fz F W :: cs)) (fun w_ hM => ⟨hM.drew, hM.drew.sub (.cons_cons _ (.cons _ (.cons _ (.cons _ (.cons _ (.cons_cons _ (.refl _)))))))⟩) ?_
      refine oR [oT 0] [(23, vP b66 0), (8, vI 0), (7, vI 0), (6, vP b66 0), (3, vP b4 0), (4, vP b5 0), (13, .slice A_l l.length c_l), (14, vI (l.length : Int)), (15, vI i53)] [23, 8, 7, 6, 3, 4, 13, 14, 15] (by kernel_rfl) ?_
      refine ops_load (d := some 24) (an := [.v (vI x55.1)]) (evs := [.load ⟨b66, 0, none⟩ (vI x55.1)]) (v := vI x55.1) ⟨by kernel_rfl⟩ (fun w_ hM => ⟨hM.cell 0 rfl rfl, rfl⟩) ?_
      refine oR [oT 2, oT 3] [(26, vP b66 1), (25, vU (IntKind.u64.wrap x55.1)), (8, vI 0), (7, vI 0), (6, vP b66 0), (3, vP b4 0), (4, vP b5 0), (13, .slice A_l l.length c_l), (14, vI (l.length : Int)), (15, vI i53)] [26, 25, 8, 7, 6, 3, 4, 13, 14, 15] (by kernel_rfl) ?_
      refine ops_load (d := some 27) (an := [.v (vI x55.2.1)]) (evs := [.load ⟨b66, 1, none⟩ (vI x55.2.1)]) (v := vI x55.2.1) ⟨by kernel_rfl⟩ (fun w_ hM => ⟨hM.cell 0 rfl rfl, rfl⟩) ?_
      refine oR [oT 6, oT 7] [(30, vP b66 0), (29, vP b5 0), (27, vI x55.2.1), (25, vU (IntKind.u64.wrap x55.1)), (8, vI 0), (7, vI 0), (6, vP b66 0), (3, vP b4 0), (4, vP b5 0), (13, .slice A_l l.length c_l), (14, vI (l.length : Int)), (15, vI i53)] [30, 29, 27, 25, 8, 7, 6, 3, 4, 13, 14, 15] (by kernel_rfl) ?_
      refine ops_load (d := some 31) (an := [.v (vI x55.1)]) (evs := [.load ⟨b66, 0, none⟩ (vI x55.1)]) (v := vI x55.1) ⟨by kernel_rfl⟩ (fun w_ hM => ⟨hM.cell 0 rfl rfl, rfl⟩) ?_
      refine oR [oT 9, oT 10] [(33, vP b66 1), (32, vU (IntKind.u64.wrap x55.1)), (29, vP b5 0), (27, vI x55.2.1), (25, vU (IntKind.u64.wrap x55.1)), (8, vI 0), (7, vI 0), (3, vP b4 0), (4, vP b5 0), (13, .slice A_l l.length c_l), (14, vI (l.length : Int)), (15, vI i53)] [33, 32, 29, 27, 25, 8, 7, 3, 4, 13, 14, 15] (by kernel_rfl) ?_
      refine ops_load (d := some 34) (an := [.v (vI x55.2.1)]) (evs := [.load ⟨b66, 1, none⟩ (vI x55.2.1)]) (v := vI x55.2.1) ⟨by kernel_rfl⟩ (fun w_ hM => ⟨hM.cell 0 rfl rfl, rfl⟩) ?_
      refine oR [] [(34, vI x55.2.1), (32, vU (IntKind.u64.wrap x55.1)), (29, vP b5 0), (27, vI x55.2.1), (25, vU (IntKind.u64.wrap x55.1)), (8, vI 0), (7, vI 0), (3, vP b4 0), (4, vP b5 0), (13, .slice A_l l.length c_l), (14, vI (l.length : Int)), (15, vI i53)] [34, 32, 29, 27, 25, 8, 7, 3, 4, 13, 14, 15] (by kernel_rfl) ?_
      obtain ⟨x86, x87, x88, hv89, hp⟩ := obind3 hp
      refine ops_callI (σ := (Option Addr) × Nat × (List Value)) (d := some 28) (f := 25) (args := #[vP b4 0, vU (IntKind.u64.wrap x55.1), vI x55.2.1]) (v := (fun x_ => match x_ with | (A90, c91, y92) => vI x86)) (I := (fun x_ => match x_ with | (A90, c91, y92) => (RepL (Rep.int .u8) F W x87 y92))) (M' := (fun x_ => match x_ with | (A90, c91, y92) => Mem w0 (orow A90 x87.length c91 5 1 y92 :: .blk b66 [vI x55.1, vI x55.2.1, vI x55.2.2] 46 :: .blk b4 [.slice A90 x87.length c91, vI x88] 45 :: .blk b5 [.slice A48 l50.length c49, vI 0] 40 :: orow A48 l50.length c49 4 1 y51 :: Fz F W :: cs))) ⟨by kernel_rfl⟩ (fun w_ hM hS => (bits_Writer_Put_ok w0 w_ (.blk b66 [vI x55.1, vI x55.2.1, vI x55.2.2] 46 :: .blk b5 [.slice A48 l50.length c49, vI 0] 40 :: orow A48 l50.length c49 4 1 y51 :: cs) F W b4 A42 c43 l44 y45 i47 (IntKind.u64.wrap x55.1) x55.2.1 (hM.pick 6 [1, 2, 5, 0, 3, 4] (by kernel_rfl) (by decide) rfl) h46 x86 x87 x88 hv89).mono (by rintro e w' ⟨A90, c91, y92, h93, rfl, h'⟩; have h' : Mem w0 (orow A90 x87.length c91 5 1 y92 :: .blk b66 [vI x55.1, vI x55.2.1, vI x55.2.2] 46 :: .blk b4 [.slice A90 x87.length c91, vI x88] 45 :: .blk b5 [.slice A48 l50.length c49, vI 0] 40 :: orow A48 l50.length c49 4 1 y51 :: Fz F W :: cs) w' := (h'.pick 6 [1, 3, 0, 4, 5, 2] (by kernel_rfl) (by decide) rfl); exact ⟨(A90, c91, y92), h93, rfl, h', (by exact h'.sub (.cons _ (.cons_cons _ (.cons _ (.cons _ (.cons _ (.cons_cons _ (.refl _))))))))⟩)) ?_
      rintro ⟨A90, c91, y92⟩ h93
      refine ops_conv (l' := [(28, vI x86), (34, vI x55.2.1), (32, vU (IntKind.u64.wrap x55.1)), (29, vP b5 0), (27, vI x55.2.1), (25, vU (IntKind.u64.wrap x55.1)), (8, vI 0), (7, vI 0), (3, vP b4 0), (4, vP b5 0), (13, .slice A_l l.length c_l), (14, vI (l.length : Int)), (15, vI i53)]) (M' := Mem w0 (orow A90 x87.length c91 5 1 y92 :: .blk b66 [vI x55.1, vI x55.2.1, vI x55.2.2] 46 :: .blk b4 [.slice A90 x87.length c91, vI x88] 45 :: .blk b5 [.slice A48 l50.length c49, vI 0] 40 :: orow A48 l50.length c49 4 1 y51 :: Fz F W :: cs)) rfl (fun _ h => h) ?_
      refine oR [] [(28, vI x86), (34, vI x55.2.1), (32, vU (IntKind.u64.wrap x55.1)), (29, vP b5 0), (8, vI 0), (7, vI 0), (3, vP b4 0), (4, vP b5 0), (13, .slice A_l l.length c_l), (14, vI (l.length : Int)), (15, vI i53)] [28, 34, 32, 29, 8, 7, 3, 4, 13, 14, 15] (by kernel_rfl) ?_
      obtain ⟨x94, x95, hv96, hp⟩ := obind2 hp
      refine ops_callI (σ := (Option Addr) × Nat × (List Value)) (d := some 35) (f := 26) (args := #[vP b5 0, vU (IntKind.u64.wrap x55.1), vI x55.2.1]) (v := (fun x_ => match x_ with | (A97, c98, y99) => vI x94)) (I := (fun x_ => match x_ with | (A97, c98, y99) => (RepL Rep.bool F W x95 y99))) (M' := (fun x_ => match x_ with | (A97, c98, y99) => Mem w0 (orow A97 x95.length c98 4 1 y99 :: orow A90 x87.length c91 5 1 y92 :: .blk b66 [vI x55.1, vI x55.2.1, vI x55.2.2] 46 :: .blk b4 [.slice A90 x87.length c91, vI x88] 45 :: .blk b5 [.slice A97 x95.length c98, vI 0] 40 :: Fz F W :: cs))) ⟨by kernel_rfl⟩ (fun w_ hM hS => (tourref1_Bits_Add_ok w0 w_ (orow A90 x87.length c91 5 1 y92 :: .blk b66 [vI x55.1, vI x55.2.1, vI x55.2.2] 46 :: .blk b4 [.slice A90 x87.length c91, vI x88] 45 :: cs) F W b5 A48 c49 l50 y51 0 (IntKind.u64.wrap x55.1) x55.2.1 (hM.pick 6 [3, 4, 5, 0, 1, 2] (by kernel_rfl) (by decide) rfl) h52 x94 x95 hv96).mono (by rintro e w' ⟨A97, c98, y99, h100, rfl, h'⟩; have h' : Mem w0 (orow A97 x95.length c98 4 1 y99 :: orow A90 x87.length c91 5 1 y92 :: .blk b66 [vI x55.1, vI x55.2.1, vI x55.2.2] 46 :: .blk b4 [.slice A90 x87.length c91, vI x88] 45 :: .blk b5 [.slice A97 x95.length c98, vI 0] 40 :: Fz F W :: cs) w' := (h'.pick 6 [1, 3, 4, 5, 0, 2] (by kernel_rfl) (by decide) rfl); exact ⟨(A97, c98, y99), h100, rfl, h', (by exact h'.sub (.cons _ (.cons _ (.cons_cons _ (.cons _ (.cons _ (.cons_cons _ (.refl _))))))))⟩)) ?_
      rintro ⟨A97, c98, y99⟩ h100
      refine ops_conv (l' := [(35, vI x94), (28, vI x86), (34, vI x55.2.1), (32, vU (IntKind.u64.wrap x55.1)), (29, vP b5 0), (8, vI 0), (7, vI 0), (3, vP b4 0), (4, vP b5 0), (13, .slice A_l l.length c_l), (14, vI (l.length : Int)), (15, vI i53)]) (M' := Mem w0 (orow A97 x95.length c98 4 1 y99 :: orow A90 x87.length c91 5 1 y92 :: .blk b66 [vI x55.1, vI x55.2.1, vI x55.2.2] 46 :: .blk b4 [.slice A90 x87.length c91, vI x88] 45 :: .blk b5 [.slice A97 x95.length c98, vI 0] 40 :: Fz F W :: cs)) rfl (fun _ h => h) ?_
      refine oR [oT 13, oT 14] [(8, vI x94), (7, vI x86), (3, vP b4 0), (4, vP b5 0), (13, .slice A_l l.length c_l), (14, vI (l.length : Int)), (15, vI i53)] [8, 7, 3, 4, 13, 14, 15] (by kernel_rfl) ?_
      refine ops_nil ?_
      refine fin_block ?_
      exact fin_join HJ3 (A90, c91, x87, y92, x88, A97, c98, x95, y99, x86, x94) ⟨hp, h93, h100⟩ (look_has ⟨rfl, rfl, rfl, rfl, rfl, rfl, rfl, trivial⟩) (fun w_ hM => hM.pick 6 [3, 1, 4, 0, 5] (by kernel_rfl) (by decide) rfl)
     · --
      have hp := cnd_f hc85 hp
      refine st_seq ?_
      refine st_region [oF 0, oF 1] (by rfl) ?_
      refine oR [oF 0, oF 1] [(36, .bool (x55.2.2 == 1)), (20, vI x55.2.2), (8, vI 0), (7, vI 0), (6, vP b66 0), (3, vP b4 0), (4, vP b5 0), (13, .slice A_l l.length c_l), (14, vI (l.length : Int)), (15, vI i53)] [36, 20, 8, 7, 6, 3, 4, 13, 14, 15] (by kernel_rfl) ?_
      refine ops_nil ?_
      refine fin_then ?_
      refine st_if (b := (x55.2.2 == 1)) rfl (fun hc101 => ?_) (fun hc101 => ?_)
      · --
       have hp := cnd_t hc101 hp
       refine st_region_draw [oT 0, oT 1, oT 2, oT 4, oT 5, oT 6, oT 7, oF 3, oF 8, oT 9, oT 10] (Mem w0 (.blk b66 [vI x55.1, vI x55.2.1, vI x55.2.2] 46 :: Fz F W :: cs)) (by kernel_rfl) (by kernel_rfl) (by kernel_rfl) (fun _ d _ _ _ h => by cases d <;> exact h) (M' := Mem w0 (.blk b66 [vI x55.1, vI x55.2.1, vI x55.2.2] 46 :: .blk b4 [.slice A42 l44.length c43, vI i47] 45 :: orow A42 l44.length c43 5 1 y45 :: .blk b5 [.slice A48 l50.length c49, vI 0] 40 :: orow A48 l50.length c49 4 1 y51 :: Fz F W :: cs)) (fun w_ hM => ⟨hM.drew, hM.drew.sub (.cons_cons _ (.cons _ (.cons _ (.cons _ (.cons _ (.cons_cons _ (.refl _)))))))⟩) ?_
       refine oR [oT 0] [(38, vP b66 0), (8, vI 0), (7, vI 0), (6, vP b66 0), (3, vP b4 0), (4, vP b5 0), (13, .slice A_l l.length c_l), (14, vI (l.length : Int)), (15, vI i53)] [38, 8, 7, 6, 3, 4, 13, 14, 15] (by kernel_rfl) ?_
       refine ops_load (d := some 39) (an := [.v (vI x55.1)]) (evs := [.load ⟨b66, 0, none⟩ (vI x55.1)]) (v := vI x55.1) ⟨by kernel_rfl⟩ (fun w_ hM => ⟨hM.cell 0 rfl rfl, rfl⟩) ?_
       refine oR [oT 2, oT 4, oT 5] [(43, vP b66 0), (42, vP b5 0), (40, vU (IntKind.u64.wrap x55.1)), (8, vI 0), (7, vI 0), (3, vP b4 0), (4, vP b5 0), (13, .slice A_l l.length c_l), (14, vI (l.length : Int)), (15, vI i53)] [43, 42, 40, 8, 7, 3, 4, 13, 14, 15] (by kernel_rfl) ?_
       refine ops_load (d := some 44) (an := [.v (vI x55.1)]) (evs := [.load ⟨b66, 0, none⟩ (vI x55.1)]) (v := vI x55.1) ⟨by kernel_rfl⟩ (fun w_ hM => ⟨hM.cell 0 rfl rfl, rfl⟩) ?_
       refine oR [oT 7] [(45, vU (IntKind.u64.wrap x55.1)), (42, vP b5 0), (40, vU (IntKind.u64.wrap x55.1)), (8, vI 0), (7, vI 0), (3, vP b4 0), (4, vP b5 0), (13, .slice A_l l.length c_l), (14, vI (l.length : Int)), (15, vI i53)] [45, 42, 40, 8, 7, 3, 4, 13, 14, 15] (by kernel_rfl) ?_
       obtain ⟨x102, x103, x104, hv105, hp⟩ := obind3 hp
       refine ops_callI (σ := (Option Addr) × Nat × (List Value)) (d := some 41) (f := 27) (args := #[vP b4 0, vU (IntKind.u64.wrap x55.1)]) (v := (fun x_ => match x_ with | (A106, c107, y108) => vI x102)) (I := (fun x_ => match x_ with | (A106, c107, y108) => (RepL (Rep.int .u8) F W x103 y108))) (M' := (fun x_ => match x_ with | (A106, c107, y108) => Mem w0 (orow A106 x103.length c107 5 1 y108 :: .blk b66 [vI x55.1, vI x55.2.1, vI x55.2.2] 46 :: .blk b4 [.slice A106 x103.length c107, vI x104] 45 :: .blk b5 [.slice A48 l50.length c49, vI 0] 40 :: orow A48 l50.length c49 4 1 y51 :: Fz F W :: cs))) ⟨by kernel_rfl⟩ (fun w_ hM hS => (bits_Writer_Nat_ok w0 w_ (.blk b66 [vI x55.1, vI x55.2.1, vI x55.2.2] 46 :: .blk b5 [.slice A48 l50.length c49, vI 0] 40 :: orow A48 l50.length c49 4 1 y51 :: cs) F W b4 A42 c43 l44 y45 i47 (IntKind.u64.wrap x55.1) (hM.pick 6 [1, 2, 5, 0, 3, 4] (by kernel_rfl) (by decide) rfl) h46 x102 x103 x104 hv105).mono (by rintro e w' ⟨A106, c107, y108, h109, rfl, h'⟩; have h' : Mem w0 (orow A106 x103.length c107 5 1 y108 :: .blk b66 [vI x55.1, vI x55.2.1, vI x55.2.2] 46 :: .blk b4 [.slice A106 x103.length c107, vI x104] 45 :: .blk b5 [.slice A48 l50.length c49, vI 0] 40 :: orow A48 l50.length c49 4 1 y51 :: Fz F W :: cs) w' := (h'.pick 6 [1, 3, 0, 4, 5, 2] (by kernel_rfl) (by decide) rfl); exact ⟨(A106, c107, y108), h109, rfl, h', (by exact h'.sub (.cons _ (.cons_cons _ (.cons _ (.cons _ (.cons _ (.cons_cons _ (.refl _))))))))⟩)) ?_
       rintro ⟨A106, c107, y108⟩ h109
       refine ops_conv (l' := [(41, vI x102), (45, vU (IntKind.u64.wrap x55.1)), (42, vP b5 0), (40, vU (IntKind.u64.wrap x55.1)), (8, vI 0), (7, vI 0), (3, vP b4 0), (4, vP b5 0), (13, .slice A_l l.length c_l), (14, vI (l.length : Int)), (15, vI i53)]) (M' := Mem w0 (orow A106 x103.length c107 5 1 y108 :: .blk b66 [vI x55.1, vI x55.2.1, vI x55.2.2] 46 :: .blk b4 [.slice A106 x103.length c107, vI x104] 45 :: .blk b5 [.slice A48 l50.length c49, vI 0] 40 :: orow A48 l50.length c49 4 1 y51 :: Fz F W :: cs)) rfl (fun _ h => h) ?_
       refine oR [] [(41, vI x102), (45, vU (IntKind.u64.wrap x55.1)), (42, vP b5 0), (8, vI 0), (7, vI 0), (3, vP b4 0), (4, vP b5 0), (13, .slice A_l l.length c_l), (14, vI (l.length : Int)), (15, vI i53)] [41, 45, 42, 8, 7, 3, 4, 13, 14, 15] (by kernel_rfl) ?_
       obtain ⟨x110, x111, hv112, hp⟩ := obind2 hp
       refine ops_callI (σ := (Option Addr) × Nat × (List Value)) (d := some 46) (f := 28) (args := #[vP b5 0, vU (IntKind.u64.wrap x55.1)]) (v := (fun x_ => match x_ with | (A113, c114, y115) => vI x110)) (I := (fun x_ => match x_ with | (A113, c114, y115) => (RepL Rep.bool F W x111 y115))) (M' := (fun x_ => match x_ with | (A113, c114, y115) => Mem w0 (orow A113 x111.length c114 4 1 y115 :: orow A106 x103.length c107 5 1 y108 :: .blk b66 [vI x55.1, vI x55.2.1, vI x55.2.2] 46 :: .blk b4 [.slice A106 x103.length c107, vI x104] 45 :: .blk b5 [.slice A113 x111.length c114, vI 0] 40 :: Fz F W :: cs))) ⟨by kernel_rfl⟩ (fun w_ hM hS => (tourref1_Bits_AddNat_ok w0 w_ (orow A106 x103.length c107 5 1 y108 :: .blk b66 [vI x55.1, vI x55.2.1, vI x55.2.2] 46 :: .blk b4 [.slice A106 x103.length c107, vI x104] 45 :: cs) F W b5 A48 c49 l50 y51 0 (IntKind.u64.wrap x55.1) (hM.pick 6 [3, 4, 5, 0, 1, 2] (by kernel_rfl) (by decide) rfl) h52 x110 x111 hv112).mono (by rintro e w' ⟨A113, c114, y115, h116, rfl, h'⟩; have h' : Mem w0 (orow A113 x111.length c114 4 1 y115 :: orow A106 x103.length c107 5 1 y108 :: .blk b66 [vI x55.1, vI x55.2.1, vI x55.2.2] 46 :: .blk b4 [.slice A106 x103.length c107, vI x104] 45 :: .blk b5 [.slice A113 x111.length c114, vI 0] 40 :: Fz F W :: cs) w' := (h'.pick 6 [1, 3, 4, 5, 0, 2] (by kernel_rfl) (by decide) rfl); exact ⟨(A113, c114, y115), h116, rfl, h', (by exact h'.sub (.cons _ (.cons _ (.cons_cons _ (.cons _ (.cons _ (.cons_cons _ (.refl _))))))))⟩)) ?_
       rintro ⟨A113, c114, y115⟩ h116
       refine ops_conv (l' := [(46, vI x110), (41, vI x102), (45, vU (IntKind.u64.wrap x55.1)), (42, vP b5 0), (8, vI 0), (7, vI 0), (3, vP b4 0), (4, vP b5 0), (13, .slice A_l l.length c_l), (14, vI (l.length : Int)), (15, vI i53)]) (M' := Mem w0 (orow A113 x111.length c114 4 1 y115 :: orow A106 x103.length c107 5 1 y108 :: .blk b66 [vI x55.1, vI x55.2.1, vI x55.2.2] 46 :: .blk b4 [.slice A106 x103.length c107, vI x104] 45 :: .blk b5 [.slice A113 x111.length c114, vI 0] 40 :: Fz F W :: cs)) rfl (fun _ h => h) ?_
       refine oR [oT 9, oT 10] [(8, vI x110), (7, vI x102), (3, vP b4 0), (4, vP b5 0), (13, .slice A_l l.length c_l), (14, vI (l.length : Int)), (15, vI i53)] [8, 7, 3, 4, 13, 14, 15] (by kernel_rfl) ?_
       refine ops_nil ?_
       refine fin_block ?_
       exact fin_join HJ3 (A106, c107, x103, y108, x104, A113, c114, x111, y115, x102, x110) ⟨hp, h109, h116⟩ (look_has ⟨rfl, rfl, rfl, rfl, rfl, rfl, rfl, trivial⟩) (fun w_ hM => hM.pick 6 [3, 1, 4, 0, 5] (by kernel_rfl) (by decide) rfl)
      · --
       have hp := cnd_f hc101 hp
       refine st_seq ?_
       refine st_region [oF 0, oF 1] (by rfl) ?_
       refine oR [oF 0, oF 1] [(47, .bool (x55.2.2 == 2)), (8, vI 0), (7, vI 0), (6, vP b66 0), (3, vP b4 0), (4, vP b5 0), (13, .slice A_l l.length c_l), (14, vI (l.length : Int)), (15, vI i53)] [47, 8, 7, 6, 3, 4, 13, 14, 15] (by kernel_rfl) ?_
       refine ops_nil ?_
       refine fin_then ?_
       refine st_if (b := (x55.2.2 == 2)) rfl (fun hc117 => ?_) (fun hc117 => ?_)
       · --
        have hp := cnd_t hc117 hp
        refine st_region_draw [oT 0, oT 1, oT 3, oT 4, oT 5, oF 2, oF 6, oF 7, oT 8, oT 9] (Mem w0 (.blk b66 [vI x55.1, vI x55.2.1, vI x55.2.2] 46 :: Fz F W :: cs)) (by kernel_rfl) (by kernel_rfl) (by kernel_rfl) (fun _ d _ _ _ h => by cases d <;> exact h) (M' := Mem w0 (.blk b66 [vI x55.1, vI x55.2.1, vI x55.2.2] 46 :: .blk b4 [.slice A42 l44.length c43, vI i47] 45 :: orow A42 l44.length c43 5 1 y45 :: .blk b5 [.slice A48 l50.length c49, vI 0] 40 :: orow A48 l50.length c49 4 1 y51 :: Fz F W :: cs)) (fun w_ hM => ⟨hM.drew, hM.drew.sub (.cons_cons _ (.cons _ (.cons _ (.cons _ (.cons _ (.cons_cons _ (.refl _)))))))⟩) ?_
        refine oR [oT 0] [(49, vP b66 0), (8, vI 0), (7, vI 0), (6, vP b66 0), (3, vP b4 0), (4, vP b5 0), (13, .slice A_l l.length c_l), (14, vI (l.length : Int)), (15, vI i53)] [49, 8, 7, 6, 3, 4, 13, 14, 15] (by kernel_rfl) ?_
        refine ops_load (d := some 50) (an := [.v (vI x55.1)]) (evs := [.load ⟨b66, 0, none⟩ (vI x55.1)]) (v := vI x55.1) ⟨by kernel_rfl⟩ (fun w_ hM => ⟨hM.cell 0 rfl rfl, rfl⟩) ?_
        refine oR [oT 3, oT 4] [(53, vP b66 0), (52, vP b5 0), (50, vI x55.1), (8, vI 0), (7, vI 0), (3, vP b4 0), (4, vP b5 0), (13, .slice A_l l.length c_l), (14, vI (l.length : Int)), (15, vI i53)] [53, 52, 50, 8, 7, 3, 4, 13, 14, 15] (by kernel_rfl) ?_
        refine ops_load (d := some 54) (an := [.v (vI x55.1)]) (evs := [.load ⟨b66, 0, none⟩ (vI x55.1)]) (v := vI x55.1) ⟨by kernel_rfl⟩ (fun w_ hM => ⟨hM.cell 0 rfl rfl, rfl⟩) ?_
        refine oR [] [(54, vI x55.1), (52, vP b5 0), (50, vI x55.1), (8, vI 0), (7, vI 0), (3, vP b4 0), (4, vP b5 0), (13, .slice A_l l.length c_l), (14, vI (l.length : Int)), (15, vI i53)] [54, 52, 50, 8, 7, 3, 4, 13, 14, 15] (by kernel_rfl) ?_
        obtain ⟨x118, x119, x120, hv121, hp⟩ := obind3 hp
        refine ops_callI (σ := (Option Addr) × Nat × (List Value)) (d := some 51) (f := 29) (args := #[vP b4 0, vI x55.1]) (v := (fun x_ => match x_ with | (A122, c123, y124) => vI x118)) (I := (fun x_ => match x_ with | (A122, c123, y124) => (RepL (Rep.int .u8) F W x119 y124))) (M' := (fun x_ => match x_ with | (A122, c123, y124) => Mem w0 (orow A122 x119.length c123 5 1 y124 :: .blk b66 [vI x55.1, vI x55.2.1, vI x55.2.2] 46 :: .blk b4 [.slice A122 x119.length c123, vI x120] 45 :: .blk b5 [.slice A48 l50.length c49, vI 0] 40 :: orow A48 l50.length c49 4 1 y51 :: Fz F W :: cs))) ⟨by kernel_rfl⟩ (fun w_ hM hS => (bits_Writer_Int_ok w0 w_ (.blk b66 [vI x55.1, vI x55.2.1, vI x55.2.2] 46 :: .blk b5 [.slice A48 l50.length c49, vI 0] 40 :: orow A48 l50.length c49 4 1 y51 :: cs) F W b4 A42 c43 l44 y45 i47 x55.1 (hM.pick 6 [1, 2, 5, 0, 3, 4] (by kernel_rfl) (by decide) rfl) h46 x118 x119 x120 hv121).mono (by rintro e w' ⟨A122, c123, y124, h125, rfl, h'⟩; have h' : Mem w0 (orow A122 x119.length c123 5 1 y124 :: .blk b66 [vI x55.1, vI x55.2.1, vI x55.2.2] 46 :: .blk b4 [.slice A122 x119.length c123, vI x120] 45 :: .blk b5 [.slice A48 l50.length c49, vI 0] 40 :: orow A48 l50.length c49 4 1 y51 :: Fz F W :: cs) w' := (h'.pick 6 [1, 3, 0, 4, 5, 2] (by kernel_rfl) (by decide) rfl); exact ⟨(A122, c123, y124), h125, rfl, h', (by exact h'.sub (.cons _ (.cons_cons _ (.cons _ (.cons _ (.cons _ (.cons_cons _ (.refl _))))))))⟩)) ?_
        rintro ⟨A122, c123, y124⟩ h125
        refine ops_conv (l' := [(51, vI x118), (54, vI x55.1), (52, vP b5 0), (50, vI x55.1), (8, vI 0), (7, vI 0), (3, vP b4 0), (4, vP b5 0), (13, .slice A_l l.length c_l), (14, vI (l.length : Int)), (15, vI i53)]) (M' := Mem w0 (orow A122 x119.length c123 5 1 y124 :: .blk b66 [vI x55.1, vI x55.2.1, vI x55.2.2] 46 :: .blk b4 [.slice A122 x119.length c123, vI x120] 45 :: .blk b5 [.slice A48 l50.length c49, vI 0] 40 :: orow A48 l50.length c49 4 1 y51 :: Fz F W :: cs)) rfl (fun _ h => h) ?_
        refine oR [] [(51, vI x118), (54, vI x55.1), (52, vP b5 0), (8, vI 0), (7, vI 0), (3, vP b4 0), (4, vP b5 0), (13, .slice A_l l.length c_l), (14, vI (l.length : Int)), (15, vI i53)] [51, 54, 52, 8, 7, 3, 4, 13, 14, 15] (by kernel_rfl) ?_
        obtain ⟨x126, hv127, hp⟩ := obind hp
        refine ops_callI (σ := Unit) (d := some 55) (f := 30) (args := #[vI x55.1]) (v := (fun _ => vU x126)) (I := (fun _ => True)) (M' := (fun _ => Mem w0 (orow A122 x119.length c123 5 1 y124 :: .blk b66 [vI x55.1, vI x55.2.1, vI x55.2.2] 46 :: .blk b4 [.slice A122 x119.length c123, vI x120] 45 :: .blk b5 [.slice A48 l50.length c49, vI 0] 40 :: orow A48 l50.length c49 4 1 y51 :: Fz F W :: cs))) ⟨by kernel_rfl⟩ (fun w_ hM hS => (tourref1_Zigzag_ok w0 w_ (orow A122 x119.length c123 5 1 y124 :: .blk b66 [vI x55.1, vI x55.2.1, vI x55.2.2] 46 :: .blk b4 [.slice A122 x119.length c123, vI x120] 45 :: .blk b5 [.slice A48 l50.length c49, vI 0] 40 :: orow A48 l50.length c49 4 1 y51 :: cs) F W x55.1 (hM.pick 6 [5, 0, 1, 2, 3, 4] (by kernel_rfl) (by decide) rfl)  x126 hv127).mono (by rintro e w' ⟨-, rfl, h'⟩; have h' : Mem w0 (orow A122 x119.length c123 5 1 y124 :: .blk b66 [vI x55.1, vI x55.2.1, vI x55.2.2] 46 :: .blk b4 [.slice A122 x119.length c123, vI x120] 45 :: .blk b5 [.slice A48 l50.length c49, vI 0] 40 :: orow A48 l50.length c49 4 1 y51 :: Fz F W :: cs) w' := (h'.pick 6 [1, 2, 3, 4, 5, 0] (by kernel_rfl) (by decide) rfl); exact ⟨(), trivial, rfl, h', (by exact h'.sub (.cons _ (.cons_cons _ (.cons _ (.cons _ (.cons _ (.cons_cons _ (.refl _))))))))⟩)) ?_
        rintro _ -
        refine ops_conv (l' := [(55, vU x126), (51, vI x118), (54, vI x55.1), (52, vP b5 0), (8, vI 0), (7, vI 0), (3, vP b4 0), (4, vP b5 0), (13, .slice A_l l.length c_l), (14, vI (l.length : Int)), (15, vI i53)]) (M' := Mem w0 (orow A122 x119.length c123 5 1 y124 :: .blk b66 [vI x55.1, vI x55.2.1, vI x55.2.2] 46 :: .blk b4 [.slice A122 x119.length c123, vI x120] 45 :: .blk b5 [.slice A48 l50.length c49, vI 0] 40 :: orow A48 l50.length c49 4 1 y51 :: Fz F W :: cs)) rfl (fun _ h => h) ?_
        refine oR [] [(55, vU x126), (51, vI x118), (52, vP b5 0), (8, vI 0), (7, vI 0), (3, vP b4 0), (4, vP b5 0), (13, .slice A_l l.length c_l), (14, vI (l.length : Int)), (15, vI i53)] [55, 51, 52, 8, 7, 3, 4, 13, 14, 15] (by kernel_rfl) ?_
        obtain ⟨x128, x129, hv130, hp⟩ := obind2 hp
        refine ops_callI (σ := (Option Addr) × Nat × (List Value)) (d := some 56) (f := 28) (args := #[vP b5 0, vU x126]) (v := (fun x_ => match x_ with | (A131, c132, y133) => vI x128)) (I := (fun x_ => match x_ with | (A131, c132, y133) => (RepL Rep.bool F W x129 y133))) (M' := (fun x_ => match x_ with | (A131, c132, y133) => Mem w0 (orow A131 x129.length c132 4 1 y133 :: orow A122 x119.length c123 5 1 y124 :: .blk b66 [vI x55.1, vI x55.2.1, vI x55.2.2] 46 :: .blk b4 [.slice A122 x119.length c123, vI x120] 45 :: .blk b5 [.slice A131 x129.length c132, vI 0] 40 :: Fz F W :: cs))) ⟨by kernel_rfl⟩ (fun w_ hM hS => (tourref1_Bits_AddNat_ok w0 w_ (orow A122 x119.length c123 5 1 y124 :: .blk b66 [vI x55.1, vI x55.2.1, vI x55.2.2] 46 :: .blk b4 [.slice A122 x119.length c123, vI x120] 45 :: cs) F W b5 A48 c49 l50 y51 0 x126 (hM.pick 6 [3, 4, 5, 0, 1, 2] (by kernel_rfl) (by decide) rfl) h52 x128 x129 hv130).mono (by rintro e w' ⟨A131, c132, y133, h134, rfl, h'⟩; have h' : Mem w0 (orow A131 x129.length c132 4 1 y133 :: orow A122 x119.length c123 5 1 y124 :: .blk b66 [vI x55.1, vI x55.2.1, vI x55.2.2] 46 :: .blk b4 [.slice A122 x119.length c123, vI x120] 45 :: .blk b5 [.slice A131 x129.length c132, vI 0] 40 :: Fz F W :: cs) w' := (h'.pick 6 [1, 3, 4, 5, 0, 2] (by kernel_rfl) (by decide) rfl); exact ⟨(A131, c132, y133), h134, rfl, h', (by exact h'.sub (.cons _ (.cons _ (.cons_cons _ (.cons _ (.cons _ (.cons_cons _ (.refl _))))))))⟩)) ?_
        rintro ⟨A131, c132, y133⟩ h134
        refine ops_conv (l' := [(56, vI x128), (55, vU x126), (51, vI x118), (52, vP b5 0), (8, vI 0), (7, vI 0), (3, vP b4 0), (4, vP b5 0), (13, .slice A_l l.length c_l), (14, vI (l.length : Int)), (15, vI i53)]) (M' := Mem w0 (orow A131 x129.length c132 4 1 y133 :: orow A122 x119.length c123 5 1 y124 :: .blk b66 [vI x55.1, vI x55.2.1, vI x55.2.2] 46 :: .blk b4 [.slice A122 x119.length c123, vI x120] 45 :: .blk b5 [.slice A131 x129.length c132, vI 0] 40 :: Fz F W :: cs)) rfl (fun _ h => h) ?_
        refine oR [oT 8, oT 9] [(8, vI x128), (7, vI x118), (3, vP b4 0), (4, vP b5 0), (13, .slice A_l l.length c_l), (14, vI (l.length : Int)), (15, vI i53)] [8, 7, 3, 4, 13, 14, 15] (by kernel_rfl) ?_
        refine ops_nil ?_
        refine fin_block ?_
        exact fin_join HJ3 (A122, c123, x119, y124, x120, A131, c132, x129, y133, x118, x128) ⟨hp, h125, h134⟩ (look_has ⟨rfl, rfl, rfl, rfl, rfl, rfl, rfl, trivial⟩) (fun w_ hM => hM.pick 6 [3, 1, 4, 0, 5] (by kernel_rfl) (by decide) rfl)
       · --
        have hp := cnd_f hc117 hp
        refine st_skip ?_
        refine fin_block ?_
        exact fin_join HJ3 (A42, c43, l44, y45, i47, A48, c49, l50, y51, 0, 0) ⟨hp, h46, h52⟩ (look_has ⟨rfl, rfl, rfl, rfl, rfl, rfl, rfl, trivial⟩) (fun w_ hM => hM.pick 6 [1, 2, 3, 4, 5] (by kernel_rfl) (by decide) rfl)
   · --
    have hp := cnd_f hc54 hp
    refine st_exit ?_
    refine fin_exit_then ?_
    refine fin_exit_then ?_
    refine fin_exit ?_
    obtain hq_ := Option.some.inj hp
    subst hq_
    obtain hq_ := hd2 _ rfl
    subst hq_
    have hp : tourlaw1_BitsWrites_j1 l44 i47 l50 = some t9001 := hk2
    exact fin_join HJ1 (A42, c43, l44, y45, i47, A48, c49, l50, y51) ⟨hp, h46, h52⟩ (look_has ⟨rfl, rfl, trivial⟩) (fun w_ hM => hM)
set_option maxHeartbeats 4000000 in
set_option maxRecDepth 100000 in
theorem fix_Clamp_ok (w0 w : World) (cs : List Chunk) (F : Nat → Prop) (W : World) (a : Int) (hM0 : Mem w0 (Fz F W :: cs) w) (i9001 : Int) (hp : fix_Clamp a = some i9001) : Calls Try.prog 105 #[vI a] w fun e w' => (True) ∧ e = .returned (vI i9001) ∧ Mem w0 (Fz F W :: cs) w' := by
 unfold fix_Clamp at hp
 refine sx_calls Try.func105 rfl (n := 6) (by kernel_rfl) (l := [(0, vI a)]) rfl (by rfl) hM0 ?_
 refine st_seq ?_
 refine st_region [oF 0] (by rfl) ?_
 refine oR [oF 0] [(0, vI a)] [0] (by kernel_rfl) ?_
 refine ops_nil ?_
 refine fin_then ?_
 refine st_seq ?_
 refine st_region [oF 0, oF 1, oF 2, oF 3] (by rfl) ?_
 refine oR [oF 0] [(3, vI a)] [3] (by kernel_rfl) ?_
 refine ops_val (op := (Go.Op.call { callee := (Go.Callee.builtin Go.Builtin.max), args := #[(Go.Operand.tmp 3), (Go.Operand.const (Go.Value.int Go.IntKind.i64 (-1099511627776)))], argTypes := #[3, 3] })) (d := some 4) (v := vI (max a (-1099511627776))) ⟨by kernel_rfl⟩ (run_max rfl rfl) ?_
 refine oR [] [(4, vI (max a (-1099511627776)))] [4] (by kernel_rfl) ?_
 refine ops_val (op := (Go.Op.call { callee := (Go.Callee.builtin Go.Builtin.min), args := #[(Go.Operand.tmp 4), (Go.Operand.const (Go.Value.int Go.IntKind.i64 1099511627776))], argTypes := #[3, 3] })) (d := some 5) (v := vI (min (max a (-1099511627776)) 1099511627776)) ⟨by kernel_rfl⟩ (run_min rfl rfl) ?_
 refine oR [oF 3] [(2, vI (min (max a (-1099511627776)) 1099511627776))] [2] (by kernel_rfl) ?_
 refine ops_nil ?_
 refine fin_then ?_
 refine st_ret ?_
 have hq_ := Option.some.inj hp
 have hr0_ := hq_
 subst hr0_
 refine fin_ret [.tmp 2] [vI (min (max a (-1099511627776)) 1099511627776)] rfl rfl (fun w_ hM => (.tmp rfl .nil)) (fun w_ hM => ?_)
 exact ⟨trivial, rfl, hM⟩
set_option maxHeartbeats 4000000 in
set_option maxRecDepth 100000 in
theorem quant_Fit_ok (w0 w : World) (cs : List Chunk) (F : Nat → Prop) (W : World) (f_0 : ByteArray) (f_1 : Int) (f_2 : Int) (v : Int) (hM0 : Mem w0 (Fz F W :: cs) w) (i9001 : Int) (hp : quant_Fit f_0 f_1 f_2 v = some i9001) : Calls Try.prog 38 #[.agg #[.string f_0, vI f_1, vI f_2], vI v] w fun e w' => (True) ∧ e = .returned (vI i9001) ∧ Mem w0 (Fz F W :: cs) w' := by
 unfold quant_Fit at hp
 refine sx_calls Try.func38 rfl (n := 21) (by kernel_rfl) (l := [(0, .agg #[.string f_0, vI f_1, vI f_2]), (1, vI v)]) rfl (by rfl) hM0 ?_
 refine st_seq ?_
 refine st_region [oF 0, oF 1] (by rfl) ?_
 refine ops_new (d := some 2) (o := .cells #[.string f_0, vI f_1, vI f_2] 55) (v := fun b1 => vP b1 0) (M' := fun b1 => Mem w0 (.blk b1 [.string f_0, vI f_1, vI f_2] 55 :: Fz F W :: cs)) (fun b1 => ⟨by kernel_rfl⟩) (fun w_ hM hS => ⟨hM.blk [.string f_0, vI f_1, vI f_2] 55, trivial⟩) (fun b1 => ?_)
 refine oR [oF 1] [(2, vP b1 0), (1, vI v)] [2, 1] (by kernel_rfl) ?_
 refine ops_nil ?_
 refine fin_then ?_
 refine st_seq ?_
 refine st_region [oF 0, oF 1, oF 2, oF 3] (by rfl) ?_
 refine oR [oF 0] [(6, vP b1 2), (2, vP b1 0), (1, vI v)] [6, 2, 1] (by kernel_rfl) ?_
 refine ops_mem (d := some 7) (an := [.v (vI f_2)]) (evs := [.load ⟨b1, 2, none⟩ (vI f_2)]) (v := vI f_2) (M' := Mem w0 (.blk b1 [.string f_0, vI f_1, vI f_2] 55 :: Fz F W :: cs)) ⟨by kernel_rfl⟩ (fun w_ hM hS => ⟨w_, ⟨hM.cell 0 rfl rfl, rfl⟩, hM, trivial⟩) ?_
 refine oR [] [(7, vI f_2), (2, vP b1 0), (1, vI v)] [7, 2, 1] (by kernel_rfl) ?_
 obtain ⟨x2, hv3, hp⟩ := obind hp
 refine ops_callI (σ := Unit) (d := some 8) (f := 105) (args := #[vI f_2]) (v := (fun _ => vI x2)) (I := (fun _ => True)) (M' := (fun _ => Mem w0 (.blk b1 [.string f_0, vI f_1, vI f_2] 55 :: Fz F W :: cs))) ⟨by kernel_rfl⟩ (fun w_ hM hS => (fix_Clamp_ok w0 w_ (.blk b1 [.string f_0, vI f_1, vI f_2] 55 :: cs) F W f_2 (hM.pick 2 [1, 0] (by kernel_rfl) (by decide) rfl)  x2 hv3).mono (by rintro e w' ⟨-, rfl, h'⟩; have h' : Mem w0 (.blk b1 [.string f_0, vI f_1, vI f_2] 55 :: Fz F W :: cs) w' := (h'.pick 2 [1, 0] (by kernel_rfl) (by decide) rfl); exact ⟨(), trivial, rfl, h', trivial⟩)) ?_
 rintro _ -
 refine ops_conv (l' := [(8, vI x2), (7, vI f_2), (2, vP b1 0), (1, vI v)]) (M' := Mem w0 (.blk b1 [.string f_0, vI f_1, vI f_2] 55 :: Fz F W :: cs)) rfl (fun _ h => h) ?_
 refine oR [oF 3] [(5, vI x2), (2, vP b1 0), (1, vI v)] [5, 2, 1] (by kernel_rfl) ?_
 refine ops_nil ?_
 refine fin_then ?_
 refine st_seq ?_
 refine st_region [oF 0, oF 1, oF 2, oF 3, oF 4, oF 5, oF 6, oF 7, oF 8, oF 9, oF 10, oF 11, oF 12] (by rfl) ?_
 refine oR [oF 0, oF 1] [(10, vI x2), (9, vI v), (5, vI x2), (2, vP b1 0)] [10, 9, 5, 2] (by kernel_rfl) ?_
 refine ops_val (op := (Go.Op.call { callee := (Go.Callee.builtin Go.Builtin.max), args := #[(Go.Operand.tmp 9), (Go.Operand.tmp 10)], argTypes := #[3, 3] })) (d := some 11) (v := vI (max v x2)) ⟨by kernel_rfl⟩ (run_max rfl rfl) ?_
 refine oR [oF 3, oF 4] [(13, vP b1 1), (12, vI x2), (11, vI (max v x2))] [13, 12, 11] (by kernel_rfl) ?_
 refine ops_mem (d := some 14) (an := [.v (vI f_1)]) (evs := [.load ⟨b1, 1, none⟩ (vI f_1)]) (v := vI f_1) (M' := Mem w0 (.blk b1 [.string f_0, vI f_1, vI f_2] 55 :: Fz F W :: cs)) ⟨by kernel_rfl⟩ (fun w_ hM hS => ⟨w_, ⟨hM.cell 0 rfl rfl, rfl⟩, hM, trivial⟩) ?_
 refine oR [] [(14, vI f_1), (12, vI x2), (11, vI (max v x2))] [14, 12, 11] (by kernel_rfl) ?_
 refine ops_val (op := (Go.Op.call { callee := (Go.Callee.builtin Go.Builtin.max), args := #[(Go.Operand.tmp 14), (Go.Operand.const (Go.Value.int Go.IntKind.i64 0))], argTypes := #[3, 3] })) (d := some 15) (v := vI (max f_1 0)) ⟨by kernel_rfl⟩ (run_max rfl rfl) ?_
 refine oR [] [(15, vI (max f_1 0)), (12, vI x2), (11, vI (max v x2))] [15, 12, 11] (by kernel_rfl) ?_
 refine ops_val (op := (Go.Op.call { callee := (Go.Callee.builtin Go.Builtin.min), args := #[(Go.Operand.tmp 15), (Go.Operand.const (Go.Value.int Go.IntKind.i64 32))], argTypes := #[3, 3] })) (d := some 16) (v := vI (min (max f_1 0) 32)) ⟨by kernel_rfl⟩ (run_min rfl rfl) ?_
 refine oR [] [(16, vI (min (max f_1 0) 32)), (12, vI x2), (11, vI (max v x2))] [16, 12, 11] (by kernel_rfl) ?_
 obtain ⟨x4, hv5, hp⟩ := obind hp
 obtain ⟨hb6, he7⟩ := shl_some hv5
 refine ops_val (op := (Go.Op.binOp Go.BinOp.shl 3 (Go.Operand.const (Go.Value.int Go.IntKind.i64 1)) (Go.Operand.tmp 16) 3)) (d := some 17) (v := vI x4) ⟨by kernel_rfl⟩ (by rw [he7]; exact run_shl rfl rfl hb6) ?_
 refine oR [oF 9, oF 10] [(19, vI (IntKind.i64.wrap (IntKind.i64.wrap (x2 + x4) - 1))), (11, vI (max v x2))] [19, 11] (by kernel_rfl) ?_
 refine ops_val (op := (Go.Op.call { callee := (Go.Callee.builtin Go.Builtin.min), args := #[(Go.Operand.tmp 11), (Go.Operand.tmp 19)], argTypes := #[3, 3] })) (d := some 20) (v := vI (min (max v x2) (IntKind.i64.wrap (IntKind.i64.wrap (x2 + x4) - 1)))) ⟨by kernel_rfl⟩ (run_min rfl rfl) ?_
 refine oR [oF 12] [(4, vI (min (max v x2) (IntKind.i64.wrap (IntKind.i64.wrap (x2 + x4) - 1))))] [4] (by kernel_rfl) ?_
 obtain ⟨x8, hv9, hp⟩ := obind hp
 refine ops_conv (l' := [(4, vI x8)]) (by rw [← Option.some.inj hv9]) (fun _ h => h) ?_
 refine ops_nil ?_
 refine fin_then ?_
 refine st_ret ?_
 have hq_ := Option.some.inj hp
 have hr0_ := hq_
 subst hr0_
 refine fin_ret [.tmp 4] [vI x8] rfl rfl (fun w_ hM => (.tmp rfl .nil)) (fun w_ hM => ?_)
 exact ⟨trivial, rfl, hM.pick 2 [1] (by kernel_rfl) (by decide) rfl⟩
set_option maxHeartbeats 4000000 in
set_option maxRecDepth 100000 in
theorem tourlaw1_quantBegun_ok (w0 w : World) (cs : List Chunk) (F : Nat → Prop) (W : World) (hM0 : Mem w0 (Fz F W :: cs) w) (t9001 : Bool) (hp : tourlaw1_quantBegun = some t9001) : Calls Try.prog 35 #[] w fun e w' => (True) ∧ e = .returned (.bool t9001) ∧ Mem w0 (Fz F W :: cs) w' := by
 unfold tourlaw1_quantBegun at hp
 refine sx_calls Try.func35 rfl (n := 4) (by kernel_rfl) (l := []) rfl (by rfl) hM0 ?_
 refine st_seq ?_
 refine st_region [oF 0] (by rfl) ?_
 refine oR [oF 0] [] [] (by kernel_rfl) ?_
 refine ops_nil ?_
 refine fin_then ?_
 refine st_seq ?_
 refine st_region [oF 0, oF 1, oF 2, oF 3] (by rfl) ?_
 refine oR [oF 0] [(1, .agg #[.string ByteArray.empty, vI 3, vI (-2)])] [1] (by kernel_rfl) ?_
 obtain ⟨x1, hv2, hp⟩ := obind hp
 refine ops_callI (σ := Unit) (d := some 2) (f := 38) (args := #[.agg #[.string ByteArray.empty, vI 3, vI (-2)], vI 9]) (v := (fun _ => vI x1)) (I := (fun _ => True)) (M' := (fun _ => Mem w0 (Fz F W :: cs))) ⟨by kernel_rfl⟩ (fun w_ hM hS => (quant_Fit_ok w0 w_ (cs) F W ByteArray.empty 3 (-2) 9 hM  x1 hv2).mono (by rintro e w' ⟨-, rfl, h'⟩; have h' : Mem w0 (Fz F W :: cs) w' := h'; exact ⟨(), trivial, rfl, h', trivial⟩)) ?_
 rintro _ -
 refine ops_conv (l' := [(2, vI x1), (1, .agg #[.string ByteArray.empty, vI 3, vI (-2)])]) (M' := Mem w0 (Fz F W :: cs)) rfl (fun _ h => h) ?_
 refine oR [oF 2, oF 3] [(0, .bool (x1 == 5))] [0] (by kernel_rfl) ?_
 refine ops_nil ?_
 refine fin_then ?_
 refine st_ret ?_
 have hq_ := Option.some.inj hp
 have hr0_ := hq_
 subst hr0_
 refine fin_ret [.tmp 0] [.bool (x1 == 5)] rfl rfl (fun w_ hM => (.tmp rfl .nil)) (fun w_ hM => ?_)
 exact ⟨trivial, rfl, hM⟩
def quant_Check__t0 : List Row := [⟨0, 8, 2⟩, ⟨1, 16, 8⟩, ⟨2, 32, 16⟩, ⟨4, 64, 32⟩, ⟨8, 128, 66⟩, ⟨24, 256, 192⟩, ⟨40, 512, 320⟩, ⟨72, 1024, 576⟩, ⟨136, 2048, 1024⟩, ⟨256, 4096, 2050⟩, ⟨768, 8192, 6144⟩, ⟨256, 16384, 2050⟩, ⟨2304, 32768, 18432⟩, ⟨4352, 65536, 34816⟩, ⟨9472, 131072, 75776⟩, ⟨16640, 262144, 133120⟩]
set_option maxHeartbeats 4000000 in
set_option maxRecDepth 100000 in
theorem quant_Check_ok (w0 w : World) (cs : List Chunk) (F : Nat → Prop) (W : World) (f_0 : ByteArray) (f_1 : Int) (f_2 : Int) (hM0 : Mem w0 (Fz F W :: cs) w) (i9001 : Int) (hp : quant_Check f_0 f_1 f_2 = some i9001) : Calls Try.prog 41 #[.agg #[.string f_0, vI f_1, vI f_2]] w fun e w' => (True) ∧ e = .returned (vI i9001) ∧ Mem w0 (Fz F W :: cs) w' := by
 unfold quant_Check at hp
 refine sx_calls Try.func41 rfl (n := 19) (by kernel_rfl) (l := [(0, .agg #[.string f_0, vI f_1, vI f_2])]) rfl (by rfl) hM0 ?_
 refine st_seq ?_
 refine st_region [oF 0, oF 1] (by rfl) ?_
 refine ops_new (d := some 1) (o := .cells #[.string f_0, vI f_1, vI f_2] 55) (v := fun b1 => vP b1 0) (M' := fun b1 => Mem w0 (.blk b1 [.string f_0, vI f_1, vI f_2] 55 :: Fz F W :: cs)) (fun b1 => ⟨by kernel_rfl⟩) (fun w_ hM hS => ⟨hM.blk [.string f_0, vI f_1, vI f_2] 55, trivial⟩) (fun b1 => ?_)
 refine oR [oF 1] [(1, vP b1 0)] [1] (by kernel_rfl) ?_
 refine ops_nil ?_
 refine fin_then ?_
 refine st_seq ?_
 refine st_seq ?_
 refine st_region_fast quant_Check__t0 [oT 0, oT 1, oT 2, oT 3, oT 4, oT 5, oT 6, oT 7, oT 8, oT 9, oT 10, oT 11, oT 12, oF 13, oT 14, oT 15] (Mem w0 (.blk b1 [.string f_0, vI f_1, vI f_2] 55 :: Fz F W :: cs)) (by kernel_rfl) (by kernel_rfl) (by kernel_rfl) (by kernel_rfl) (by kernel_rfl) (fun _ d _ _ _ h => by cases d <;> exact h) (M' := Mem w0 (.blk b1 [.string f_0, vI f_1, vI f_2] 55 :: Fz F W :: cs)) (fun w_ hM => ⟨hM.drew, hM.drew.sub (.cons_cons _ (.cons_cons _ (.refl _)))⟩) ?_
 refine oR [oT 0] [(3, vP b1 1), (1, vP b1 0)] [3, 1] (by kernel_rfl) ?_
 refine ops_load (d := some 4) (an := [.v (vI f_1)]) (evs := [.load ⟨b1, 1, none⟩ (vI f_1)]) (v := vI f_1) ⟨by kernel_rfl⟩ (fun w_ hM => ⟨hM.cell 0 rfl rfl, rfl⟩) ?_
 refine oR [oT 2, oT 3] [(6, .bool (decide (f_1 < 0))), (1, vP b1 0)] [6, 1] (by kernel_rfl) ?_
 refine ops_bool (t := decide (f_1 < 0)) (l1 := [(6, .bool true), (1, vP b1 0)]) (l2 := [(6, .bool false), (1, vP b1 0)]) (fun h => by rw [h]) (fun h => by rw [h]) (fun hc2 => ?_) (fun hc2 => ?_)
 · --
  have hp := cnd_t hc2 hp
  refine oR [oT 4, oT 5, oT 6, oT 7, oT 8, oT 9, oT 10, oT 11, oT 12, oF 13, oT 14, oT 15] [(18, .bool true)] [18] (by kernel_rfl) ?_
  refine ops_nil ?_
  refine fin_then ?_
  refine st_true rfl ?_
  refine st_seq ?_
  refine st_region [oF 0] (by rfl) ?_
  refine oR [oF 0] [(2, vI 3)] [2] (by kernel_rfl) ?_
  refine ops_nil ?_
  refine fin_then ?_
  refine st_ret ?_
  refine fin_ret_then ?_
  have hq_ := Option.some.inj hp
  have hr0_ := hq_
  subst hr0_
  refine fin_ret [.tmp 2] [vI 3] rfl rfl (fun w_ hM => (.tmp rfl .nil)) (fun w_ hM => ?_)
  exact ⟨trivial, rfl, hM.pick 2 [1] (by kernel_rfl) (by decide) rfl⟩
 · --
  have hp := cnd_f hc2 hp
  refine oR [oT 4] [(7, vP b1 1), (6, .bool false), (1, vP b1 0)] [7, 6, 1] (by kernel_rfl) ?_
  refine ops_load (d := some 8) (an := [.v (vI f_1)]) (evs := [.load ⟨b1, 1, none⟩ (vI f_1)]) (v := vI f_1) ⟨by kernel_rfl⟩ (fun w_ hM => ⟨hM.cell 0 rfl rfl, rfl⟩) ?_
  refine oR [oT 6, oT 7, oT 8] [(11, .bool (decide (32 < f_1))), (1, vP b1 0)] [11, 1] (by kernel_rfl) ?_
  refine ops_bool (t := decide (32 < f_1)) (l1 := [(11, .bool true), (1, vP b1 0)]) (l2 := [(11, .bool false), (1, vP b1 0)]) (fun h => by rw [h]) (fun h => by rw [h]) (fun hc3 => ?_) (fun hc3 => ?_)
  · --
   have hp := cnd_t hc3 hp
   refine oR [oT 9, oT 10, oT 11, oT 12, oF 13, oT 14, oT 15] [(18, .bool true)] [18] (by kernel_rfl) ?_
   refine ops_nil ?_
   refine fin_then ?_
   refine st_true rfl ?_
   refine st_seq ?_
   refine st_region [oF 0] (by rfl) ?_
   refine oR [oF 0] [(2, vI 3)] [2] (by kernel_rfl) ?_
   refine ops_nil ?_
   refine fin_then ?_
   refine st_ret ?_
   refine fin_ret_then ?_
   have hq_ := Option.some.inj hp
   have hr0_ := hq_
   subst hr0_
   refine fin_ret [.tmp 2] [vI 3] rfl rfl (fun w_ hM => (.tmp rfl .nil)) (fun w_ hM => ?_)
   exact ⟨trivial, rfl, hM.pick 2 [1] (by kernel_rfl) (by decide) rfl⟩
  · --
   have hp := cnd_f hc3 hp
   refine oR [oT 9] [(12, vP b1 2), (11, .bool false), (1, vP b1 0)] [12, 11, 1] (by kernel_rfl) ?_
   refine ops_load (d := some 13) (an := [.v (vI f_2)]) (evs := [.load ⟨b1, 2, none⟩ (vI f_2)]) (v := vI f_2) ⟨by kernel_rfl⟩ (fun w_ hM => ⟨hM.cell 0 rfl rfl, rfl⟩) ?_
   refine oR [oT 11] [(14, vP b1 2), (13, vI f_2), (11, .bool false)] [14, 13, 11] (by kernel_rfl) ?_
   refine ops_load (d := some 15) (an := [.v (vI f_2)]) (evs := [.load ⟨b1, 2, none⟩ (vI f_2)]) (v := vI f_2) ⟨by kernel_rfl⟩ (fun w_ hM => ⟨hM.cell 0 rfl rfl, rfl⟩) ?_
   refine oR [] [(15, vI f_2), (13, vI f_2), (11, .bool false)] [15, 13, 11] (by kernel_rfl) ?_
   obtain ⟨x4, hv5, hp⟩ := obind hp
   refine ops_callI (σ := Unit) (d := some 16) (f := 105) (args := #[vI f_2]) (v := (fun _ => vI x4)) (I := (fun _ => True)) (M' := (fun _ => Mem w0 (.blk b1 [.string f_0, vI f_1, vI f_2] 55 :: Fz F W :: cs))) ⟨by kernel_rfl⟩ (fun w_ hM hS => (fix_Clamp_ok w0 w_ (.blk b1 [.string f_0, vI f_1, vI f_2] 55 :: cs) F W f_2 (hM.pick 2 [1, 0] (by kernel_rfl) (by decide) rfl)  x4 hv5).mono (by rintro e w' ⟨-, rfl, h'⟩; have h' : Mem w0 (.blk b1 [.string f_0, vI f_1, vI f_2] 55 :: Fz F W :: cs) w' := (h'.pick 2 [1, 0] (by kernel_rfl) (by decide) rfl); exact ⟨(), trivial, rfl, h', (by exact h'.sub (.cons_cons _ (.cons_cons _ (.refl _))))⟩)) ?_
   rintro _ -
   refine ops_conv (l' := [(16, vI x4), (15, vI f_2), (13, vI f_2), (11, .bool false)]) (M' := Mem w0 (.blk b1 [.string f_0, vI f_1, vI f_2] 55 :: Fz F W :: cs)) rfl (fun _ h => h) ?_
   refine oR [oT 14, oT 15] [(18, .bool (!(f_2 == x4)))] [18] (by kernel_rfl) ?_
   refine ops_nil ?_
   refine fin_then ?_
   refine st_if (b := !(f_2 == x4)) rfl (fun hc6 => ?_) (fun hc6 => ?_)
   · --
    have hp := cnd_t hc6 hp
    refine st_seq ?_
    refine st_region [oF 0] (by rfl) ?_
    refine oR [oF 0] [(2, vI 3)] [2] (by kernel_rfl) ?_
    refine ops_nil ?_
    refine fin_then ?_
    refine st_ret ?_
    refine fin_ret_then ?_
    have hq_ := Option.some.inj hp
    have hr0_ := hq_
    subst hr0_
    refine fin_ret [.tmp 2] [vI 3] rfl rfl (fun w_ hM => (.tmp rfl .nil)) (fun w_ hM => ?_)
    exact ⟨trivial, rfl, hM.pick 2 [1] (by kernel_rfl) (by decide) rfl⟩
   · --
    have hp := cnd_f hc6 hp
    refine st_skip ?_
    refine fin_then ?_
    refine st_seq ?_
    refine st_region [oF 0] (by rfl) ?_
    refine oR [oF 0] [(2, vI 0)] [2] (by kernel_rfl) ?_
    refine ops_nil ?_
    refine fin_then ?_
    refine st_ret ?_
    have hq_ := Option.some.inj hp
    have hr0_ := hq_
    subst hr0_
    refine fin_ret [.tmp 2] [vI 0] rfl rfl (fun w_ hM => (.tmp rfl .nil)) (fun w_ hM => ?_)
    exact ⟨trivial, rfl, hM.pick 2 [1] (by kernel_rfl) (by decide) rfl⟩
end Go.Proofs.Ytfihfbkjomploaa.X
