/- The Go functions come to what the plain functions tell. No condition. -/
import Derived.Test.YtfihfbkjomploaaProg
import Derived.Test.YtfihfbkjomploaaFnX
import Derived.Test.YtfihfbkjomploaaWkX0
namespace Go.Proofs.Ytfihfbkjomploaa.X
open Go Go.RowKit Go.Proofs.Ytfihfbkjomploaa.Sx
set_option linter.unusedVariables false
def tourref1_Bits_ReadNat__t0 : List Row := [⟨0, 512, 1⟩, ⟨1, 1024, 512⟩, ⟨2, 2048, 1024⟩, ⟨4, 4096, 2048⟩, ⟨0, 8192, 16⟩, ⟨16, 16384, 8192⟩, ⟨40, 32768, 20480⟩, ⟨64, 65536, 32768⟩, ⟨0, 131072, 1⟩, ⟨256, 262144, 131072⟩, ⟨512, 524288, 262144⟩, ⟨1024, 1048576, 524288⟩, ⟨2048, 2097152, 1048576⟩, ⟨4224, 4194304, 2162688⟩]
def tourref1_Bits_ReadNat__t1 : List Row := [⟨0, 134217728, 1⟩, ⟨1, 268435456, 134217728⟩, ⟨2, 536870912, 268435456⟩, ⟨4, 1073741824, 536870912⟩, ⟨0, 2147483648, 1⟩, ⟨16, 4294967296, 2147483648⟩, ⟨32, 8589934592, 4294967296⟩, ⟨64, 17179869184, 8589934592⟩, ⟨0, 34359738368, 16⟩, ⟨256, 68719476736, 34359738368⟩, ⟨640, 137438953472, 85899345920⟩, ⟨1024, 274877906944, 137438953472⟩, ⟨2056, 549755813888, 275951648768⟩, ⟨4096, 1099511627776, 549755813888⟩, ⟨8192, 2199023255552, 1099511627776⟩]
def tourref1_Bits_ReadNat__t2 : List Row := [⟨0, 18014398509481984, 1⟩, ⟨1, 36028797018963968, 18014398509481984⟩, ⟨2, 72057594037927936, 36028797018963968⟩, ⟨4, 144115188075855872, 72057594037927936⟩, ⟨0, 288230376151711744, 1⟩, ⟨16, 576460752303423488, 288230376151711744⟩, ⟨32, 1152921504606846976, 576460752303423488⟩, ⟨64, 2305843009213693952, 1152921504606846976⟩, ⟨0, 4611686018427387904, 64⟩, ⟨256, 9223372036854775808, 4611686018427387904⟩, ⟨640, 18446744073709551616, 11529215046068469760⟩, ⟨0, 36893488147419103232, 256⟩, ⟨3072, 73786976294838206464, 55340232221128654848⟩, ⟨4104, 147573952589676412928, 73931091482914062336⟩, ⟨8192, 295147905179352825856, 147573952589676412928⟩]
set_option maxHeartbeats 4000000 in
set_option maxRecDepth 100000 in
theorem tourref1_Bits_ReadNat_ok (w0 w : World) (cs : List Chunk) (F : Nat → Prop) (W : World) (b_b : Nat) (A_b_0 : Option Addr) (c_b_0 : Nat) (b_0 : List Bool) (y_b_0 : List Value) (b_1 : Int) (hM0 : Mem w0 (.blk b_b [.slice A_b_0 b_0.length c_b_0, vI b_1] 40 :: orow A_b_0 b_0.length c_b_0 4 1 y_b_0 :: Fz F W :: cs) w) (h_b_0 : RepL Rep.bool F W b_0 y_b_0) (i9001 : Int) (i9002 : Int) (i9006 : Int) (hp : tourref1_Bits_ReadNat b_0 b_1 = some (i9001, i9002, i9006)) : Calls Try.prog 20 #[vP b_b 0] w fun e w' => ∃ (A9003 : Option Addr), ∃ (y9004 : List Value), ((RepL Rep.bool F W b_0 y9004)) ∧ e = .returned (.tuple #[vU i9001, vI i9002]) ∧ Mem w0 (.blk b_b [.slice A9003 b_0.length c_b_0, vI i9006] 40 :: orow A9003 b_0.length c_b_0 4 1 y9004 :: Fz F W :: cs) w' := by
 unfold tourref1_Bits_ReadNat at hp
 refine sx_calls Try.func20 rfl (n := 97) (by kernel_rfl) (l := [(0, vP b_b 0)]) rfl (by rfl) hM0 ?_
 refine st_seq ?_
 refine st_region [oF 0, oF 1] (by rfl) ?_
 refine oR [oF 0, oF 1] [(0, vP b_b 0)] [0] (by kernel_rfl) ?_
 refine ops_nil ?_
 refine fin_then ?_
 refine st_seq ?_
 refine st_region [oF 0] (by rfl) ?_
 refine oR [oF 0] [(4, vI 0), (0, vP b_b 0)] [4, 0] (by kernel_rfl) ?_
 refine ops_nil ?_
 refine fin_then ?_
 refine st_join1 (σ := (Option Addr) × (List Value) × Int) (L := fun x_ => match x_ with | (A1, y2, i4) => [(0, vP b_b 0), (4, vI i4)]) (N := fun x_ => match x_ with | (A1, y2, i4) => Mem w0 (.blk b_b [.slice A1 b_0.length c_b_0, vI b_1] 40 :: orow A1 b_0.length c_b_0 4 1 y2 :: Fz F W :: cs)) (I := fun x_ => match x_ with | (A1, y2, i4) => ((tourref1_Bits_ReadNat_j1 b_1 b_0) i4 = some (i9001, i9002, i9006)) ∧ (RepL Rep.bool F W b_0 y2)) ?_ ?_
 · --
  rintro ⟨A1, y2, i4⟩ ⟨hp, h3⟩
  refine st_conv (l' := [(0, vP b_b 0), (4, vI i4)]) (M' := Mem w0 (.blk b_b [.slice A1 b_0.length c_b_0, vI b_1] 40 :: orow A1 b_0.length c_b_0 4 1 y2 :: Fz F W :: cs)) rfl (fun _ h => h) ?_
  unfold tourref1_Bits_ReadNat_j1 at hp
  refine st_seq ?_
  refine st_region [oF 0] (by rfl) ?_
  refine oR [oF 0] [(5, vU 0), (0, vP b_b 0), (4, vI i4)] [5, 0, 4] (by kernel_rfl) ?_
  refine ops_nil ?_
  refine fin_then ?_
  refine st_join1 (σ := (Option Addr) × (List Value) × Int) (L := fun x_ => match x_ with | (A5, y6, i8) => [(0, vP b_b 0), (4, vI i4), (5, vU i8)]) (N := fun x_ => match x_ with | (A5, y6, i8) => Mem w0 (.blk b_b [.slice A5 b_0.length c_b_0, vI b_1] 40 :: orow A5 b_0.length c_b_0 4 1 y6 :: Fz F W :: cs)) (I := fun x_ => match x_ with | (A5, y6, i8) => ((tourref1_Bits_ReadNat_j2 b_1 i4) i8 = some (i9001, i9002, i9006)) ∧ (RepL Rep.bool F W b_0 y6)) ?_ ?_
  · --
   rintro ⟨A5, y6, i8⟩ ⟨hp, h7⟩
   refine st_conv (l' := [(0, vP b_b 0), (4, vI i4), (5, vU i8)]) (M' := Mem w0 (.blk b_b [.slice A5 b_0.length c_b_0, vI b_1] 40 :: orow A5 b_0.length c_b_0 4 1 y6 :: Fz F W :: cs)) rfl (fun _ h => h) ?_
   unfold tourref1_Bits_ReadNat_j2 at hp
   refine st_seq ?_
   refine st_region [oF 0, oF 1, oF 2, oF 3, oF 4, oF 5, oF 6, oF 7, oF 8, oF 9] (by rfl) ?_
   refine oR [oF 0, oF 1, oF 2] [(89, vP b_b 1), (87, vP b_b 0), (4, vI i4), (5, vU i8)] [89, 87, 4, 5] (by kernel_rfl) ?_
   refine ops_mem (d := some 90) (an := [.v (vI b_1)]) (evs := [.load ⟨b_b, 1, none⟩ (vI b_1)]) (v := vI b_1) (M' := Mem w0 (.blk b_b [.slice A5 b_0.length c_b_0, vI b_1] 40 :: orow A5 b_0.length c_b_0 4 1 y6 :: Fz F W :: cs)) ⟨by kernel_rfl⟩ (fun w_ hM hS => ⟨w_, ⟨hM.cell 0 rfl rfl, rfl⟩, hM, trivial⟩) ?_
   refine oR [oF 4, oF 5, oF 6, oF 7, oF 8] [(95, vP b_b 1), (93, vI (IntKind.i64.wrap (b_1 + IntKind.i64.wrap (5 * i4)))), (5, vU i8)] [95, 93, 5] (by kernel_rfl) ?_
   refine ops_store (an := []) (evs := [.store ⟨b_b, 1, none⟩ (vI (IntKind.i64.wrap (b_1 + IntKind.i64.wrap (5 * i4))))]) (M' := Mem w0 (.blk b_b [.slice A5 b_0.length c_b_0, vI (IntKind.i64.wrap (b_1 + IntKind.i64.wrap (5 * i4)))] 40 :: orow A5 b_0.length c_b_0 4 1 y6 :: Fz F W :: cs)) ⟨by kernel_rfl⟩ (fun w_ hM hS => let ⟨w', he, h'⟩ := hM.evs_stores [vI (IntKind.i64.wrap (b_1 + IntKind.i64.wrap (5 * i4)))] 0 rfl 1 (Nat.le_of_ble_eq_true rfl); ⟨w', he, h', trivial⟩) ?_
   refine oR [] [(5, vU i8)] [5] (by kernel_rfl) ?_
   refine ops_nil ?_
   refine fin_then ?_
   refine st_seq ?_
   refine st_region [oF 0, oF 1, oF 2] (by rfl) ?_
   refine oR [oF 0, oF 1, oF 2] [(3, vI 0), (2, vU i8)] [3, 2] (by kernel_rfl) ?_
   refine ops_nil ?_
   refine fin_then ?_
   refine st_ret ?_
   have hq_ := Option.some.inj hp
   obtain ⟨hr0_, hq_⟩ := Prod.mk.inj hq_
   obtain ⟨hr1_, hq_⟩ := Prod.mk.inj hq_
   have hr2_ := hq_
   subst hr0_
   subst hr1_
   subst hr2_
   refine fin_ret [.tmp 2, .tmp 3] [vU i8, vI 0] rfl rfl (fun w_ hM => (.tmp rfl (.tmp rfl .nil))) (fun w_ hM => ?_)
   exact ⟨A5, y6, h7, rfl, hM⟩
  · --
   intro HJ2
   refine st_seq ?_
   refine st_seq ?_
   refine st_region [oF 0, oF 1, oF 2] (by rfl) ?_
   refine oR [oF 0, oF 1, oF 2] [(6, vI (IntKind.i64.wrap (i4 - 1))), (5, vU 0), (0, vP b_b 0), (4, vI i4)] [6, 5, 0, 4] (by kernel_rfl) ?_
   refine ops_nil ?_
   refine fin_then ?_
   refine st_block ?_
   obtain ⟨r3, hl3, hk3⟩ := obind hp
   refine st_loopP (σ := Int × Int) (ρ := ((Int × Int × Int) ⊕ Int)) (γ := (Option Addr) × (List Value)) hl3 (A1, y2) (fun s_ g_ => match s_, g_ with | (i12, i13), (A9, y10) => [(0, vP b_b 0), (4, vI i4), (5, vU i12), (6, vI i13)]) (fun s_ g_ => match s_, g_ with | (i12, i13), (A9, y10) => Mem w0 (.blk b_b [.slice A9 b_0.length c_b_0, vI b_1] 40 :: orow A9 b_0.length c_b_0 4 1 y10 :: Fz F W :: cs)) (fun s_ g_ => match s_, g_ with | (i12, i13), (A9, y10) => (RepL Rep.bool F W b_0 y10)) h3 (look_has ⟨rfl, rfl, rfl, rfl, trivial⟩) (fun w_ hM => hM) ?_
   rintro ⟨i12, i13⟩ ⟨A9, y10⟩ o3 h11 hs_ hd3
   have hp : (tourref1_Bits_ReadNat_l3 b_1 b_0 i4) i12 i13 = some o3 := hs_
   clear hs_
   unfold tourref1_Bits_ReadNat_l3 at hp
   refine st_conv (l' := [(0, vP b_b 0), (4, vI i4), (5, vU i12), (6, vI i13)]) (M' := Mem w0 (.blk b_b [.slice A9 b_0.length c_b_0, vI b_1] 40 :: orow A9 b_0.length c_b_0 4 1 y10 :: Fz F W :: cs)) rfl (fun _ h => h) ?_
   refine st_seq ?_
   refine st_seq ?_
   refine st_region [oF 0, oF 1] (by rfl) ?_
   refine oR [oF 0, oF 1] [(45, .bool (decide (0 ≤ i13))), (0, vP b_b 0), (4, vI i4), (5, vU i12), (6, vI i13)] [45, 0, 4, 5, 6] (by kernel_rfl) ?_
   refine ops_nil ?_
   refine fin_then ?_
   refine st_if (b := decide (0 ≤ i13)) rfl (fun hc14 => ?_) (fun hc14 => ?_)
   · --
    have hp := cnd_t hc14 hp
    refine st_skip ?_
    refine fin_then ?_
    refine st_seq ?_
    refine st_block ?_
    refine st_seq ?_
    refine st_region [oF 0] (by rfl) ?_
    refine oR [oF 0] [(7, vU 0), (0, vP b_b 0), (4, vI i4), (5, vU i12), (6, vI i13)] [7, 0, 4, 5, 6] (by kernel_rfl) ?_
    refine ops_nil ?_
    refine fin_then ?_
    refine st_join1 (σ := (Option Addr) × (List Value) × Int) (L := fun x_ => match x_ with | (A15, y16, i18) => [(0, vP b_b 0), (4, vI i4), (5, vU i12), (6, vI i13), (7, vU i18)]) (N := fun x_ => match x_ with | (A15, y16, i18) => Mem w0 (.blk b_b [.slice A15 b_0.length c_b_0, vI b_1] 40 :: orow A15 b_0.length c_b_0 4 1 y16 :: Fz F W :: cs)) (I := fun x_ => match x_ with | (A15, y16, i18) => ((tourref1_Bits_ReadNat_j4 i13 i4 b_1 i12) i18 = some o3) ∧ (RepL Rep.bool F W b_0 y16)) ?_ ?_
    · --
     rintro ⟨A15, y16, i18⟩ ⟨hp, h17⟩
     refine st_conv (l' := [(0, vP b_b 0), (4, vI i4), (5, vU i12), (6, vI i13), (7, vU i18)]) (M' := Mem w0 (.blk b_b [.slice A15 b_0.length c_b_0, vI b_1] 40 :: orow A15 b_0.length c_b_0 4 1 y16 :: Fz F W :: cs)) rfl (fun _ h => h) ?_
     unfold tourref1_Bits_ReadNat_j4 at hp
     refine st_join1 (σ := Unit) (L := fun _ => [(0, vP b_b 0), (4, vI i4), (5, vU i12), (6, vI i13), (7, vU i18)]) (N := fun _ => Mem w0 (.blk b_b [.slice A15 b_0.length c_b_0, vI b_1] 40 :: orow A15 b_0.length c_b_0 4 1 y16 :: Fz F W :: cs)) (I := fun _ => ((tourref1_Bits_ReadNat_j5 i12 i18 i13) = some o3)) ?_ ?_
     · --
      rintro _ hp
      refine st_conv (l' := [(0, vP b_b 0), (4, vI i4), (5, vU i12), (6, vI i13), (7, vU i18)]) (M' := Mem w0 (.blk b_b [.slice A15 b_0.length c_b_0, vI b_1] 40 :: orow A15 b_0.length c_b_0 4 1 y16 :: Fz F W :: cs)) rfl (fun _ h => h) ?_
      unfold tourref1_Bits_ReadNat_j5 at hp
      refine st_region [oF 0, oF 1, oF 2, oF 3, oF 4] (by rfl) ?_
      refine oR [oF 0, oF 1, oF 2, oF 3, oF 4] [(5, vU (IntKind.u64.wrap (IntKind.u64.wrap (16 * i12) + i18))), (0, vP b_b 0), (4, vI i4), (6, vI i13)] [5, 0, 4, 6] (by kernel_rfl) ?_
      refine ops_nil ?_
      refine fin_block ?_
      refine fin_then ?_
      refine st_region [oF 0, oF 1, oF 2] (by rfl) ?_
      refine oR [oF 0, oF 1, oF 2] [(6, vI (IntKind.i64.wrap (i13 - 1))), (5, vU (IntKind.u64.wrap (IntKind.u64.wrap (16 * i12) + i18))), (0, vP b_b 0), (4, vI i4)] [6, 5, 0, 4] (by kernel_rfl) ?_
      refine ops_nil ?_
      exact fin_again (IntKind.u64.wrap (IntKind.u64.wrap (16 * i12) + i18), IntKind.i64.wrap (i13 - 1)) (A15, y16) (Option.some.inj hp).symm h17 (look_has ⟨rfl, rfl, rfl, rfl, trivial⟩) (fun w_ hM => hM)
     · --
      intro HJ5
      refine st_seq ?_
      refine st_seq ?_
      refine st_region [oF 0, oF 1, oF 2, oF 3, oF 4, oF 5, oF 6, oF 7, oF 8, oF 9, oF 10, oF 11] (by rfl) ?_
      refine oR [oF 0, oF 1, oF 2, oF 3, oF 4] [(75, .bool (i13 == IntKind.i64.wrap (i4 - 1))), (0, vP b_b 0), (4, vI i4), (5, vU i12), (6, vI i13), (7, vU i18)] [75, 0, 4, 5, 6, 7] (by kernel_rfl) ?_
      refine ops_bool (t := (i13 == IntKind.i64.wrap (i4 - 1))) (l1 := [(75, .bool true), (0, vP b_b 0), (4, vI i4), (5, vU i12), (6, vI i13), (7, vU i18)]) (l2 := [(75, .bool false), (0, vP b_b 0), (4, vI i4), (5, vU i12), (6, vI i13), (7, vU i18)]) (fun h => by rw [h]) (fun h => by rw [h]) (fun hc19 => ?_) (fun hc19 => ?_)
      · --
       have hp := cnd_t hc19 hp
       refine oR [oF 5, oF 6, oF 7, oF 8] [(79, .bool (decide (0 < i13))), (0, vP b_b 0), (4, vI i4), (5, vU i12), (6, vI i13), (7, vU i18)] [79, 0, 4, 5, 6, 7] (by kernel_rfl) ?_
       refine ops_bool (t := decide (0 < i13)) (l1 := [(79, .bool true), (0, vP b_b 0), (4, vI i4), (5, vU i12), (6, vI i13), (7, vU i18)]) (l2 := [(79, .bool false), (0, vP b_b 0), (4, vI i4), (5, vU i12), (6, vI i13), (7, vU i18)]) (fun h => by rw [h]) (fun h => by rw [h]) (fun hc20 => ?_) (fun hc20 => ?_)
       · --
        have hp := cnd_t hc20 hp
        refine oR [oF 9, oF 10, oF 11] [(82, .bool (i18 == 0)), (0, vP b_b 0), (4, vI i4), (5, vU i12), (6, vI i13), (7, vU i18)] [82, 0, 4, 5, 6, 7] (by kernel_rfl) ?_
        refine ops_nil ?_
        refine fin_then ?_
        refine st_if (b := (i18 == 0)) rfl (fun hc21 => ?_) (fun hc21 => ?_)
        · --
         have hp := cnd_t hc21 hp
         refine st_seq ?_
         refine st_region [oF 0, oF 1] (by rfl) ?_
         refine oR [oF 0, oF 1] [(3, vI 3), (2, vU 0)] [3, 2] (by kernel_rfl) ?_
         refine ops_nil ?_
         refine fin_then ?_
         refine st_ret ?_
         refine fin_ret_then ?_
         refine fin_ret_block ?_
         refine fin_ret_then ?_
         refine fin_ret_then ?_
         refine fin_ret_block ?_
         refine fin_ret_then ?_
         obtain hq_ := Option.some.inj hp
         subst hq_
         obtain hq_ := hd3 _ rfl
         subst hq_
         have hp : some (0, 3, b_1) = some (i9001, i9002, i9006) := hk3
         have hq_ := Option.some.inj hp
         obtain ⟨hr0_, hq_⟩ := Prod.mk.inj hq_
         obtain ⟨hr1_, hq_⟩ := Prod.mk.inj hq_
         have hr2_ := hq_
         subst hr0_
         subst hr1_
         subst hr2_
         refine fin_ret [.tmp 2, .tmp 3] [vU 0, vI 3] rfl rfl (fun w_ hM => (.tmp rfl (.tmp rfl .nil))) (fun w_ hM => ?_)
         exact ⟨A15, y16, h17, rfl, hM⟩
        · --
         have hp := cnd_f hc21 hp
         refine st_skip ?_
         exact fin_join HJ5 () hp (look_has ⟨rfl, rfl, rfl, rfl, rfl, trivial⟩) (fun w_ hM => hM)
       · --
        have hp := cnd_f hc20 hp
        refine oR [oF 9, oF 10, oF 11] [(82, .bool false), (0, vP b_b 0), (4, vI i4), (5, vU i12), (6, vI i13), (7, vU i18)] [82, 0, 4, 5, 6, 7] (by kernel_rfl) ?_
        refine ops_nil ?_
        refine fin_then ?_
        refine st_false rfl ?_
        refine st_skip ?_
        exact fin_join HJ5 () hp (look_has ⟨rfl, rfl, rfl, rfl, rfl, trivial⟩) (fun w_ hM => hM)
      · --
       have hp := cnd_f hc19 hp
       refine oR [oF 5, oF 6, oF 7, oF 8, oF 9, oF 10, oF 11] [(82, .bool false), (0, vP b_b 0), (4, vI i4), (5, vU i12), (6, vI i13), (7, vU i18)] [82, 0, 4, 5, 6, 7] (by kernel_rfl) ?_
       refine ops_nil ?_
       refine fin_then ?_
       refine st_false rfl ?_
       refine st_skip ?_
       exact fin_join HJ5 () hp (look_has ⟨rfl, rfl, rfl, rfl, rfl, trivial⟩) (fun w_ hM => hM)
    · --
     intro HJ4
     refine st_seq ?_
     refine st_seq ?_
     refine st_region [oF 0] (by rfl) ?_
     refine oR [oF 0] [(8, vI 3), (7, vU 0), (0, vP b_b 0), (4, vI i4), (5, vU i12), (6, vI i13)] [8, 7, 0, 4, 5, 6] (by kernel_rfl) ?_
     refine ops_nil ?_
     refine fin_then ?_
     refine st_block ?_
     obtain ⟨r6, hl6, hk6⟩ := obind hp
     refine st_loopP (σ := Int × Int) (ρ := Int) (γ := (Option Addr) × (List Value)) hl6 (A9, y10) (fun s_ g_ => match s_, g_ with | (i25, i26), (A22, y23) => [(0, vP b_b 0), (4, vI i4), (5, vU i12), (6, vI i13), (7, vU i25), (8, vI i26)]) (fun s_ g_ => match s_, g_ with | (i25, i26), (A22, y23) => Mem w0 (.blk b_b [.slice A22 b_0.length c_b_0, vI b_1] 40 :: orow A22 b_0.length c_b_0 4 1 y23 :: Fz F W :: cs)) (fun s_ g_ => match s_, g_ with | (i25, i26), (A22, y23) => (RepL Rep.bool F W b_0 y23)) h11 (look_has ⟨rfl, rfl, rfl, rfl, rfl, rfl, trivial⟩) (fun w_ hM => hM) ?_
     rintro ⟨i25, i26⟩ ⟨A22, y23⟩ o6 h24 hs_ hd6
     have hp : (tourref1_Bits_ReadNat_l6 b_1 i13 b_0) i25 i26 = some o6 := hs_
     clear hs_
     unfold tourref1_Bits_ReadNat_l6 at hp
     refine st_conv (l' := [(0, vP b_b 0), (4, vI i4), (5, vU i12), (6, vI i13), (7, vU i25), (8, vI i26)]) (M' := Mem w0 (.blk b_b [.slice A22 b_0.length c_b_0, vI b_1] 40 :: orow A22 b_0.length c_b_0 4 1 y23 :: Fz F W :: cs)) rfl (fun _ h => h) ?_
     refine st_seq ?_
     refine st_seq ?_
     refine st_region [oF 0, oF 1] (by rfl) ?_
     refine oR [oF 0, oF 1] [(49, .bool (decide (0 ≤ i26))), (0, vP b_b 0), (4, vI i4), (5, vU i12), (6, vI i13), (7, vU i25), (8, vI i26)] [49, 0, 4, 5, 6, 7, 8] (by kernel_rfl) ?_
     refine ops_nil ?_
     refine fin_then ?_
     refine st_if (b := decide (0 ≤ i26)) rfl (fun hc27 => ?_) (fun hc27 => ?_)
     · --
      have hp := cnd_t hc27 hp
      refine st_skip ?_
      refine fin_then ?_
      refine st_join1 (σ := (Option Addr) × (List Value) × Int) (L := fun x_ => match x_ with | (A28, y29, i31) => [(0, vP b_b 0), (4, vI i4), (5, vU i12), (6, vI i13), (7, vU i31), (8, vI i26)]) (N := fun x_ => match x_ with | (A28, y29, i31) => Mem w0 (.blk b_b [.slice A28 b_0.length c_b_0, vI b_1] 40 :: orow A28 b_0.length c_b_0 4 1 y29 :: Fz F W :: cs)) (I := fun x_ => match x_ with | (A28, y29, i31) => ((tourref1_Bits_ReadNat_j7 i26) i31 = some o6) ∧ (RepL Rep.bool F W b_0 y29)) ?_ ?_
      · --
       rintro ⟨A28, y29, i31⟩ ⟨hp, h30⟩
       refine st_conv (l' := [(0, vP b_b 0), (4, vI i4), (5, vU i12), (6, vI i13), (7, vU i31), (8, vI i26)]) (M' := Mem w0 (.blk b_b [.slice A28 b_0.length c_b_0, vI b_1] 40 :: orow A28 b_0.length c_b_0 4 1 y29 :: Fz F W :: cs)) rfl (fun _ h => h) ?_
       unfold tourref1_Bits_ReadNat_j7 at hp
       refine st_region [oF 0, oF 1, oF 2] (by rfl) ?_
       refine oR [oF 0, oF 1, oF 2] [(8, vI (IntKind.i64.wrap (i26 - 1))), (0, vP b_b 0), (4, vI i4), (5, vU i12), (6, vI i13), (7, vU i31)] [8, 0, 4, 5, 6, 7] (by kernel_rfl) ?_
       refine ops_nil ?_
       exact fin_again (i31, IntKind.i64.wrap (i26 - 1)) (A28, y29) (Option.some.inj hp).symm h30 (look_has ⟨rfl, rfl, rfl, rfl, rfl, rfl, trivial⟩) (fun w_ hM => hM)
      · --
       intro HJ7
       refine st_seq ?_
       refine st_block ?_
       refine st_seq ?_
       refine st_region [oF 0, oF 1, oF 2] (by rfl) ?_
       refine oR [oF 0, oF 1, oF 2] [(7, vU (IntKind.u64.wrap (i25 * 2))), (0, vP b_b 0), (4, vI i4), (5, vU i12), (6, vI i13), (8, vI i26)] [7, 0, 4, 5, 6, 8] (by kernel_rfl) ?_
       refine ops_nil ?_
       refine fin_then ?_
       refine st_seq ?_
       refine st_region_fast tourref1_Bits_ReadNat__t2 [oT 0, oT 1, oT 2, oT 3, oT 4, oT 5, oT 6, oT 7, oT 8, oT 9, oT 10, oT 11, oT 12, oT 13, oT 14] (Mem w0 (.blk b_b [.slice A22 b_0.length c_b_0, vI b_1] 40 :: orow A22 b_0.length c_b_0 4 1 y23 :: Fz F W :: cs)) (by kernel_rfl) (by kernel_rfl) (by kernel_rfl) (by kernel_rfl) (by kernel_rfl) (fun _ d _ _ _ h => by cases d <;> exact h) (M' := Mem w0 (.blk b_b [.slice A22 b_0.length c_b_0, vI b_1] 40 :: orow A22 b_0.length c_b_0 4 1 y23 :: Fz F W :: cs)) (fun w_ hM => ⟨hM.drew, hM.drew.sub (.cons_cons _ (.cons_cons _ (.cons_cons _ (.refl _))))⟩) ?_
       refine oR [oT 0, oT 1, oT 2] [(56, vP b_b 0), (7, vU (IntKind.u64.wrap (i25 * 2))), (0, vP b_b 0), (4, vI i4), (5, vU i12), (6, vI i13), (8, vI i26)] [56, 7, 0, 4, 5, 6, 8] (by kernel_rfl) ?_
       refine ops_load (d := some 57) (an := [.v (.slice A22 b_0.length c_b_0)]) (evs := [.load ⟨b_b, 0, none⟩ (.slice A22 b_0.length c_b_0)]) (v := .slice A22 b_0.length c_b_0) ⟨by kernel_rfl⟩ (fun w_ hM => ⟨hM.cell 0 rfl rfl, rfl⟩) ?_
       refine oR [oT 4, oT 5, oT 6] [(60, vP b_b 1), (57, .slice A22 b_0.length c_b_0), (7, vU (IntKind.u64.wrap (i25 * 2))), (0, vP b_b 0), (4, vI i4), (5, vU i12), (6, vI i13), (8, vI i26)] [60, 57, 7, 0, 4, 5, 6, 8] (by kernel_rfl) ?_
       refine ops_load (d := some 61) (an := [.v (vI b_1)]) (evs := [.load ⟨b_b, 1, none⟩ (vI b_1)]) (v := vI b_1) ⟨by kernel_rfl⟩ (fun w_ hM => ⟨hM.cell 0 rfl rfl, rfl⟩) ?_
       refine oR [oT 8, oT 9, oT 10, oT 11, oT 12] [(66, vI (IntKind.i64.wrap (IntKind.i64.wrap (b_1 + IntKind.i64.wrap (5 * i13)) + i26))), (57, .slice A22 b_0.length c_b_0), (7, vU (IntKind.u64.wrap (i25 * 2))), (0, vP b_b 0), (4, vI i4), (5, vU i12), (6, vI i13), (8, vI i26)] [66, 57, 7, 0, 4, 5, 6, 8] (by kernel_rfl) ?_
       obtain ⟨x32, hv33, hp⟩ := obind hp
       refine ops_conv (l' := [(66, vI x32), (57, .slice A22 b_0.length c_b_0), (7, vU (IntKind.u64.wrap (i25 * 2))), (0, vP b_b 0), (4, vI i4), (5, vU i12), (6, vI i13), (8, vI i26)]) (by rw [← Option.some.inj hv33]) (fun _ h => h) ?_
       obtain ⟨x34, hv35, hp⟩ := obind hp
       obtain ⟨m36, hm37, hx38⟩ := idx_some hv35
       have hl41 := (List.getElem?_eq_some_iff.1 hx38).1
       refine ops_fact (fun w_ hM => hM.orowSome 1 rfl (Nat.lt_of_le_of_lt (Nat.zero_le _) hl41)) ?_
       rintro ⟨g42, rfl, -⟩
       obtain ⟨vs39, hr40, hq43⟩ := h24.at_ m36 x34 hx38
       obtain rfl := hr40
       refine ops_val (op := (Go.Op.indexAddr 38 (Go.Operand.tmp 57) (Go.Operand.tmp 66))) (d := some 67) (v := vP g42 (m36 * 1)) ⟨by kernel_rfl⟩ (run_indexRow Try.underlying38 (z := 1) (by kernel_rfl) rfl rfl hm37 hl41 rfl) ?_
       refine oR [] [(67, vP g42 (m36 * 1)), (7, vU (IntKind.u64.wrap (i25 * 2))), (0, vP b_b 0), (4, vI i4), (5, vU i12), (6, vI i13), (8, vI i26)] [67, 7, 0, 4, 5, 6, 8] (by kernel_rfl) ?_
       refine ops_load (d := some 68) (an := [.v (.bool x34)]) (evs := [.load ⟨g42, m36 * 1, none⟩ (.bool x34)]) (v := .bool x34) ⟨by kernel_rfl⟩ (fun w_ hM => ⟨hM.ocell 1 rfl (hq43 0 _ rfl), rfl⟩) ?_
       refine oR [] [(68, .bool x34), (7, vU (IntKind.u64.wrap (i25 * 2))), (0, vP b_b 0), (4, vI i4), (5, vU i12), (6, vI i13), (8, vI i26)] [68, 7, 0, 4, 5, 6, 8] (by kernel_rfl) ?_
       refine ops_nil ?_
       refine fin_then ?_
       refine st_if (b := x34) rfl (fun hc44 => ?_) (fun hc44 => ?_)
       · --
        have hp := cnd_t hc44 hp
        refine st_region [oF 0, oF 1, oF 2] (by rfl) ?_
        refine oR [oF 0, oF 1, oF 2] [(7, vU (IntKind.u64.wrap (IntKind.u64.wrap (i25 * 2) + 1))), (0, vP b_b 0), (4, vI i4), (5, vU i12), (6, vI i13), (8, vI i26)] [7, 0, 4, 5, 6, 8] (by kernel_rfl) ?_
        refine ops_nil ?_
        refine fin_block ?_
        exact fin_join HJ7 ((some ⟨g42, 0, none⟩), y23, IntKind.u64.wrap (IntKind.u64.wrap (i25 * 2) + 1)) ⟨hp, h24⟩ (look_has ⟨rfl, rfl, rfl, rfl, rfl, rfl, trivial⟩) (fun w_ hM => hM)
       · --
        have hp := cnd_f hc44 hp
        refine st_skip ?_
        refine fin_block ?_
        exact fin_join HJ7 ((some ⟨g42, 0, none⟩), y23, IntKind.u64.wrap (i25 * 2)) ⟨hp, h24⟩ (look_has ⟨rfl, rfl, rfl, rfl, rfl, rfl, trivial⟩) (fun w_ hM => hM)
     · --
      have hp := cnd_f hc27 hp
      refine st_exit ?_
      refine fin_exit_then ?_
      refine fin_exit_then ?_
      refine fin_exit ?_
      obtain hq_ := Option.some.inj hp
      subst hq_
      obtain hq_ := hd6 _ rfl
      subst hq_
      have hp : (tourref1_Bits_ReadNat_j4 i13 i4 b_1 i12) i25 = some o3 := hk6
      exact fin_join HJ4 (A22, y23, i25) ⟨hp, h24⟩ (look_has ⟨rfl, rfl, rfl, rfl, rfl, trivial⟩) (fun w_ hM => hM)
   · --
    have hp := cnd_f hc14 hp
    refine st_exit ?_
    refine fin_exit_then ?_
    refine fin_exit_then ?_
    refine fin_exit ?_
    obtain hq_ := Option.some.inj hp
    subst hq_
    obtain hq_ := hd3 _ rfl
    subst hq_
    have hp : (tourref1_Bits_ReadNat_j2 b_1 i4) i12 = some (i9001, i9002, i9006) := hk3
    exact fin_join HJ2 (A9, y10, i12) ⟨hp, h11⟩ (look_has ⟨rfl, rfl, rfl, trivial⟩) (fun w_ hM => hM)
 · --
  intro HJ1
  refine st_seq ?_
  refine st_block ?_
  obtain ⟨r8, hl8, hk8⟩ := obind hp
  refine st_loopP (σ := Int) (ρ := ((Int × Int × Int) ⊕ Int)) (γ := (Option Addr) × (List Value)) hl8 (A_b_0, y_b_0) (fun s_ g_ => match s_, g_ with | i48, (A45, y46) => [(0, vP b_b 0), (4, vI i48)]) (fun s_ g_ => match s_, g_ with | i48, (A45, y46) => Mem w0 (.blk b_b [.slice A45 b_0.length c_b_0, vI b_1] 40 :: orow A45 b_0.length c_b_0 4 1 y46 :: Fz F W :: cs)) (fun s_ g_ => match s_, g_ with | i48, (A45, y46) => (RepL Rep.bool F W b_0 y46)) h_b_0 (look_has ⟨rfl, rfl, trivial⟩) (fun w_ hM => hM) ?_
  rintro i48 ⟨A45, y46⟩ o8 h47 hs_ hd8
  have hp : (tourref1_Bits_ReadNat_l8 b_1 b_0) i48 = some o8 := hs_
  clear hs_
  unfold tourref1_Bits_ReadNat_l8 at hp
  refine st_conv (l' := [(0, vP b_b 0), (4, vI i48)]) (M' := Mem w0 (.blk b_b [.slice A45 b_0.length c_b_0, vI b_1] 40 :: orow A45 b_0.length c_b_0 4 1 y46 :: Fz F W :: cs)) rfl (fun _ h => h) ?_
  refine st_block ?_
  refine st_seq ?_
  refine st_seq ?_
  refine st_region_fast tourref1_Bits_ReadNat__t0 [oT 0, oT 1, oT 2, oT 3, oT 4, oT 5, oT 6, oT 7, oT 8, oT 9, oT 10, oT 11, oT 12, oT 13] (Mem w0 (.blk b_b [.slice A45 b_0.length c_b_0, vI b_1] 40 :: orow A45 b_0.length c_b_0 4 1 y46 :: Fz F W :: cs)) (by kernel_rfl) (by kernel_rfl) (by kernel_rfl) (by kernel_rfl) (by kernel_rfl) (fun _ d _ _ _ h => by cases d <;> exact h) (M' := Mem w0 (.blk b_b [.slice A45 b_0.length c_b_0, vI b_1] 40 :: orow A45 b_0.length c_b_0 4 1 y46 :: Fz F W :: cs)) (fun w_ hM => ⟨hM.drew, hM.drew.sub (.cons_cons _ (.cons_cons _ (.cons_cons _ (.refl _))))⟩) ?_
  refine oR [oT 0, oT 1, oT 2] [(11, vP b_b 1), (0, vP b_b 0), (4, vI i48)] [11, 0, 4] (by kernel_rfl) ?_
  refine ops_load (d := some 12) (an := [.v (vI b_1)]) (evs := [.load ⟨b_b, 1, none⟩ (vI b_1)]) (v := vI b_1) ⟨by kernel_rfl⟩ (fun w_ hM => ⟨hM.cell 0 rfl rfl, rfl⟩) ?_
  refine oR [oT 4, oT 5, oT 6, oT 7, oT 8, oT 9, oT 10] [(19, vP b_b 0), (16, vI (IntKind.i64.wrap (IntKind.i64.wrap (b_1 + IntKind.i64.wrap (5 * i48)) + 5))), (0, vP b_b 0), (4, vI i48)] [19, 16, 0, 4] (by kernel_rfl) ?_
  obtain ⟨x49, hv50, hp⟩ := obind hp
  refine ops_conv (l' := [(19, vP b_b 0), (16, vI x49), (0, vP b_b 0), (4, vI i48)]) (by rw [← Option.some.inj hv50]) (fun _ h => h) ?_
  refine ops_load (d := some 20) (an := [.v (.slice A45 b_0.length c_b_0)]) (evs := [.load ⟨b_b, 0, none⟩ (.slice A45 b_0.length c_b_0)]) (v := .slice A45 b_0.length c_b_0) ⟨by kernel_rfl⟩ (fun w_ hM => ⟨hM.cell 0 rfl rfl, rfl⟩) ?_
  refine oR [oT 12, oT 13] [(22, .bool (decide ((b_0.length : Int) < x49))), (0, vP b_b 0), (4, vI i48)] [22, 0, 4] (by kernel_rfl) ?_
  refine ops_nil ?_
  refine fin_then ?_
  refine st_if (b := decide ((b_0.length : Int) < x49)) rfl (fun hc51 => ?_) (fun hc51 => ?_)
  · --
   have hp := cnd_t hc51 hp
   refine st_seq ?_
   refine st_region [oF 0, oF 1] (by rfl) ?_
   refine oR [oF 0, oF 1] [(3, vI 14), (2, vU 0)] [3, 2] (by kernel_rfl) ?_
   refine ops_nil ?_
   refine fin_then ?_
   refine st_ret ?_
   refine fin_ret_then ?_
   refine fin_ret_block ?_
   refine fin_ret_then ?_
   refine fin_ret_block ?_
   refine fin_ret_then ?_
   obtain hq_ := Option.some.inj hp
   subst hq_
   obtain hq_ := hd8 _ rfl
   subst hq_
   have hp : some (0, 14, b_1) = some (i9001, i9002, i9006) := hk8
   have hq_ := Option.some.inj hp
   obtain ⟨hr0_, hq_⟩ := Prod.mk.inj hq_
   obtain ⟨hr1_, hq_⟩ := Prod.mk.inj hq_
   have hr2_ := hq_
   subst hr0_
   subst hr1_
   subst hr2_
   refine fin_ret [.tmp 2, .tmp 3] [vU 0, vI 14] rfl rfl (fun w_ hM => (.tmp rfl (.tmp rfl .nil))) (fun w_ hM => ?_)
   exact ⟨A45, y46, h47, rfl, hM⟩
  · --
   have hp := cnd_f hc51 hp
   refine st_skip ?_
   refine fin_then ?_
   refine st_seq ?_
   refine st_seq ?_
   refine st_region [oF 0, oF 1] (by rfl) ?_
   refine oR [oF 0, oF 1] [(24, .bool (i48 == 16)), (0, vP b_b 0), (4, vI i48)] [24, 0, 4] (by kernel_rfl) ?_
   refine ops_nil ?_
   refine fin_then ?_
   refine st_if (b := (i48 == 16)) rfl (fun hc52 => ?_) (fun hc52 => ?_)
   · --
    have hp := cnd_t hc52 hp
    refine st_seq ?_
    refine st_region [oF 0, oF 1] (by rfl) ?_
    refine oR [oF 0, oF 1] [(3, vI 3), (2, vU 0)] [3, 2] (by kernel_rfl) ?_
    refine ops_nil ?_
    refine fin_then ?_
    refine st_ret ?_
    refine fin_ret_then ?_
    refine fin_ret_block ?_
    refine fin_ret_then ?_
    refine fin_ret_block ?_
    refine fin_ret_then ?_
    obtain hq_ := Option.some.inj hp
    subst hq_
    obtain hq_ := hd8 _ rfl
    subst hq_
    have hp : some (0, 3, b_1) = some (i9001, i9002, i9006) := hk8
    have hq_ := Option.some.inj hp
    obtain ⟨hr0_, hq_⟩ := Prod.mk.inj hq_
    obtain ⟨hr1_, hq_⟩ := Prod.mk.inj hq_
    have hr2_ := hq_
    subst hr0_
    subst hr1_
    subst hr2_
    refine fin_ret [.tmp 2, .tmp 3] [vU 0, vI 3] rfl rfl (fun w_ hM => (.tmp rfl (.tmp rfl .nil))) (fun w_ hM => ?_)
    exact ⟨A45, y46, h47, rfl, hM⟩
   · --
    have hp := cnd_f hc52 hp
    refine st_skip ?_
    refine fin_then ?_
    refine st_seq ?_
    refine st_region [oF 0, oF 1, oF 2] (by rfl) ?_
    refine oR [oF 0, oF 1, oF 2] [(4, vI (IntKind.i64.wrap (i48 + 1))), (0, vP b_b 0)] [4, 0] (by kernel_rfl) ?_
    refine ops_nil ?_
    refine fin_then ?_
    refine st_seq ?_
    refine st_region_fast tourref1_Bits_ReadNat__t1 [oT 0, oT 1, oT 2, oT 3, oT 4, oT 5, oT 6, oT 7, oT 8, oT 9, oT 10, oT 11, oT 12, oT 13, oT 14] (Mem w0 (.blk b_b [.slice A45 b_0.length c_b_0, vI b_1] 40 :: orow A45 b_0.length c_b_0 4 1 y46 :: Fz F W :: cs)) (by kernel_rfl) (by kernel_rfl) (by kernel_rfl) (by kernel_rfl) (by kernel_rfl) (fun _ d _ _ _ h => by cases d <;> exact h) (M' := Mem w0 (.blk b_b [.slice A45 b_0.length c_b_0, vI b_1] 40 :: orow A45 b_0.length c_b_0 4 1 y46 :: Fz F W :: cs)) (fun w_ hM => ⟨hM.drew, hM.drew.sub (.cons_cons _ (.cons_cons _ (.cons_cons _ (.refl _))))⟩) ?_
    refine oR [oT 0, oT 1, oT 2] [(29, vP b_b 0), (4, vI (IntKind.i64.wrap (i48 + 1))), (0, vP b_b 0)] [29, 4, 0] (by kernel_rfl) ?_
    refine ops_load (d := some 30) (an := [.v (.slice A45 b_0.length c_b_0)]) (evs := [.load ⟨b_b, 0, none⟩ (.slice A45 b_0.length c_b_0)]) (v := .slice A45 b_0.length c_b_0) ⟨by kernel_rfl⟩ (fun w_ hM => ⟨hM.cell 0 rfl rfl, rfl⟩) ?_
    refine oR [oT 4, oT 5, oT 6] [(33, vP b_b 1), (30, .slice A45 b_0.length c_b_0), (4, vI (IntKind.i64.wrap (i48 + 1))), (0, vP b_b 0)] [33, 30, 4, 0] (by kernel_rfl) ?_
    refine ops_load (d := some 34) (an := [.v (vI b_1)]) (evs := [.load ⟨b_b, 1, none⟩ (vI b_1)]) (v := vI b_1) ⟨by kernel_rfl⟩ (fun w_ hM => ⟨hM.cell 0 rfl rfl, rfl⟩) ?_
    refine oR [oT 8, oT 9, oT 10, oT 11] [(38, vI (IntKind.i64.wrap (IntKind.i64.wrap (b_1 + IntKind.i64.wrap (5 * IntKind.i64.wrap (i48 + 1))) - 1))), (30, .slice A45 b_0.length c_b_0), (4, vI (IntKind.i64.wrap (i48 + 1))), (0, vP b_b 0)] [38, 30, 4, 0] (by kernel_rfl) ?_
    obtain ⟨x53, hv54, hp⟩ := obind hp
    refine ops_conv (l' := [(38, vI x53), (30, .slice A45 b_0.length c_b_0), (4, vI (IntKind.i64.wrap (i48 + 1))), (0, vP b_b 0)]) (by rw [← Option.some.inj hv54]) (fun _ h => h) ?_
    obtain ⟨x55, hv56, hp⟩ := obind hp
    obtain ⟨m57, hm58, hx59⟩ := idx_some hv56
    have hl62 := (List.getElem?_eq_some_iff.1 hx59).1
    refine ops_fact (fun w_ hM => hM.orowSome 1 rfl (Nat.lt_of_le_of_lt (Nat.zero_le _) hl62)) ?_
    rintro ⟨g63, rfl, -⟩
    obtain ⟨vs60, hr61, hq64⟩ := h47.at_ m57 x55 hx59
    obtain rfl := hr61
    refine ops_val (op := (Go.Op.indexAddr 38 (Go.Operand.tmp 30) (Go.Operand.tmp 38))) (d := some 39) (v := vP g63 (m57 * 1)) ⟨by kernel_rfl⟩ (run_indexRow Try.underlying38 (z := 1) (by kernel_rfl) rfl rfl hm58 hl62 rfl) ?_
    refine oR [] [(39, vP g63 (m57 * 1)), (4, vI (IntKind.i64.wrap (i48 + 1))), (0, vP b_b 0)] [39, 4, 0] (by kernel_rfl) ?_
    refine ops_load (d := some 40) (an := [.v (.bool x55)]) (evs := [.load ⟨g63, m57 * 1, none⟩ (.bool x55)]) (v := .bool x55) ⟨by kernel_rfl⟩ (fun w_ hM => ⟨hM.ocell 1 rfl (hq64 0 _ rfl), rfl⟩) ?_
    refine oR [oT 14] [(41, .bool (!x55)), (4, vI (IntKind.i64.wrap (i48 + 1))), (0, vP b_b 0)] [41, 4, 0] (by kernel_rfl) ?_
    refine ops_nil ?_
    refine fin_then ?_
    refine st_if (b := !x55) rfl (fun hc65 => ?_) (fun hc65 => ?_)
    · --
     have hp := cnd_t hc65 hp
     refine st_exit ?_
     refine fin_exit_ne (by rfl) ?_
     refine fin_exit_then ?_
     refine fin_exit ?_
     obtain hq_ := Option.some.inj hp
     subst hq_
     obtain hq_ := hd8 _ rfl
     subst hq_
     have hp : (tourref1_Bits_ReadNat_j1 b_1 b_0) (IntKind.i64.wrap (i48 + 1)) = some (i9001, i9002, i9006) := hk8
     exact fin_join HJ1 ((some ⟨g63, 0, none⟩), y46, IntKind.i64.wrap (i48 + 1)) ⟨hp, h47⟩ (look_has ⟨rfl, rfl, trivial⟩) (fun w_ hM => hM)
    · --
     have hp := cnd_f hc65 hp
     refine st_skip ?_
     refine fin_block ?_
     exact fin_again (IntKind.i64.wrap (i48 + 1)) ((some ⟨g63, 0, none⟩), y46) (Option.some.inj hp).symm h47 (look_has ⟨rfl, rfl, trivial⟩) (fun w_ hM => hM)
set_option maxHeartbeats 4000000 in
set_option maxRecDepth 100000 in
theorem bits_Reader_Int_ok (w0 w : World) (cs : List Chunk) (F : Nat → Prop) (W : World) (b_r : Nat) (A_r_0 : Option Addr) (c_r_0 : Nat) (r_0 : List Int) (y_r_0 : List Value) (r_1 : Int) (hM0 : Mem w0 (.blk b_r [.slice A_r_0 r_0.length c_r_0, vI r_1] 136 :: orow A_r_0 r_0.length c_r_0 5 1 y_r_0 :: Fz F W :: cs) w) (h_r_0 : RepL (Rep.int .u8) F W r_0 y_r_0) (i9001 : Int) (i9002 : Int) (i9006 : Int) (hp : bits_Reader_Int r_0 r_1 = some (i9001, i9002, i9006)) : Calls Try.prog 21 #[vP b_r 0] w fun e w' => ∃ (A9003 : Option Addr), ∃ (y9004 : List Value), ((RepL (Rep.int .u8) F W r_0 y9004)) ∧ e = .returned (.tuple #[vI i9001, vI i9002]) ∧ Mem w0 (.blk b_r [.slice A9003 r_0.length c_r_0, vI i9006] 136 :: orow A9003 r_0.length c_r_0 5 1 y9004 :: Fz F W :: cs) w' := by
 unfold bits_Reader_Int at hp
 refine sx_calls Try.func21 rfl (n := 21) (by kernel_rfl) (l := [(0, vP b_r 0)]) rfl (by rfl) hM0 ?_
 refine st_seq ?_
 refine st_region [oF 0, oF 1] (by rfl) ?_
 refine oR [oF 0, oF 1] [(0, vP b_r 0)] [0] (by kernel_rfl) ?_
 refine ops_nil ?_
 refine fin_then ?_
 refine st_seq ?_
 refine st_region [oF 0, oF 1, oF 2, oF 3, oF 4, oF 5, oF 6] (by rfl) ?_
 refine oR [oF 0] [(7, vP b_r 0)] [7] (by kernel_rfl) ?_
 obtain ⟨x1, x2, x3, hv4, hp⟩ := obind3 hp
 refine ops_callI (σ := (Option Addr) × (List Value)) (d := some 8) (f := 19) (args := #[vP b_r 0]) (v := (fun x_ => match x_ with | (A5, y6) => .tuple #[vU x1, vI x2])) (I := (fun x_ => match x_ with | (A5, y6) => (RepL (Rep.int .u8) F W r_0 y6))) (M' := (fun x_ => match x_ with | (A5, y6) => Mem w0 (orow A5 r_0.length c_r_0 5 1 y6 :: .blk b_r [.slice A5 r_0.length c_r_0, vI x3] 136 :: Fz F W :: cs))) ⟨by kernel_rfl⟩ (fun w_ hM hS => (bits_Reader_Nat_ok w0 w_ (cs) F W b_r A_r_0 c_r_0 r_0 y_r_0 r_1 hM h_r_0 x1 x2 x3 hv4).mono (by rintro e w' ⟨A5, y6, h7, rfl, h'⟩; have h' : Mem w0 (orow A5 r_0.length c_r_0 5 1 y6 :: .blk b_r [.slice A5 r_0.length c_r_0, vI x3] 136 :: Fz F W :: cs) w' := (h'.pick 3 [1, 0, 2] (by kernel_rfl) (by decide) rfl); exact ⟨(A5, y6), h7, rfl, h', trivial⟩)) ?_
 rintro ⟨A5, y6⟩ h7
 refine ops_conv (l' := [(8, .tuple #[vU x1, vI x2]), (7, vP b_r 0)]) (M' := Mem w0 (orow A5 r_0.length c_r_0 5 1 y6 :: .blk b_r [.slice A5 r_0.length c_r_0, vI x3] 136 :: Fz F W :: cs)) rfl (fun _ h => h) ?_
 refine oR [oF 2, oF 3, oF 4, oF 5, oF 6] [(5, vI x2), (4, vU x1)] [5, 4] (by kernel_rfl) ?_
 refine ops_nil ?_
 refine fin_then ?_
 refine st_seq ?_
 refine st_seq ?_
 refine st_region [oF 0, oF 1] (by rfl) ?_
 refine oR [oF 0, oF 1] [(12, .bool (!(x2 == 0))), (5, vI x2), (4, vU x1)] [12, 5, 4] (by kernel_rfl) ?_
 refine ops_nil ?_
 refine fin_then ?_
 refine st_if (b := !(x2 == 0)) rfl (fun hc8 => ?_) (fun hc8 => ?_)
 · --
  have hp := cnd_t hc8 hp
  refine st_seq ?_
  refine st_region [oF 0, oF 1, oF 2] (by rfl) ?_
  refine oR [oF 0, oF 1, oF 2] [(3, vI x2), (2, vI 0)] [3, 2] (by kernel_rfl) ?_
  refine ops_nil ?_
  refine fin_then ?_
  refine st_ret ?_
  refine fin_ret_then ?_
  have hq_ := Option.some.inj hp
  obtain ⟨hr0_, hq_⟩ := Prod.mk.inj hq_
  obtain ⟨hr1_, hq_⟩ := Prod.mk.inj hq_
  have hr2_ := hq_
  subst hr0_
  subst hr1_
  subst hr2_
  refine fin_ret [.tmp 2, .tmp 3] [vI 0, vI x2] rfl rfl (fun w_ hM => (.tmp rfl (.tmp rfl .nil))) (fun w_ hM => ?_)
  exact ⟨A5, y6, h7, rfl, hM.pick 3 [1, 0, 2] (by kernel_rfl) (by decide) rfl⟩
 · --
  have hp := cnd_f hc8 hp
  refine st_skip ?_
  refine fin_then ?_
  refine st_seq ?_
  refine st_region [oF 0, oF 1, oF 2, oF 3, oF 4, oF 5, oF 6, oF 7, oF 8] (by rfl) ?_
  refine oR [oF 0, oF 1, oF 2, oF 3, oF 4, oF 5, oF 6, oF 7, oF 8] [(3, vI 0), (2, vI (IntKind.i64.wrap (Go.bits .xor .u64 (Int.fdiv x1 2) (IntKind.u64.wrap (0 - Go.bits .and .u64 x1 1)))))] [3, 2] (by kernel_rfl) ?_
  obtain ⟨x9, hv10, hp⟩ := obind hp
  refine ops_conv (l' := [(3, vI 0), (2, vI x9)]) (by rw [← Option.some.inj hv10]) (fun _ h => h) ?_
  refine ops_nil ?_
  refine fin_then ?_
  refine st_ret ?_
  have hq_ := Option.some.inj hp
  obtain ⟨hr0_, hq_⟩ := Prod.mk.inj hq_
  obtain ⟨hr1_, hq_⟩ := Prod.mk.inj hq_
  have hr2_ := hq_
  subst hr0_
  subst hr1_
  subst hr2_
  refine fin_ret [.tmp 2, .tmp 3] [vI x9, vI 0] rfl rfl (fun w_ hM => (.tmp rfl (.tmp rfl .nil))) (fun w_ hM => ?_)
  exact ⟨A5, y6, h7, rfl, hM.pick 3 [1, 0, 2] (by kernel_rfl) (by decide) rfl⟩
set_option maxHeartbeats 4000000 in
set_option maxRecDepth 100000 in
theorem tourref1_Unzigzag_ok (w0 w : World) (cs : List Chunk) (F : Nat → Prop) (W : World) (v : Int) (hM0 : Mem w0 (Fz F W :: cs) w) (i9001 : Int) (hp : tourref1_Unzigzag v = some i9001) : Calls Try.prog 22 #[vU v] w fun e w' => (True) ∧ e = .returned (vI i9001) ∧ Mem w0 (Fz F W :: cs) w' := by
 unfold tourref1_Unzigzag at hp
 refine sx_calls Try.func22 rfl (n := 14) (by kernel_rfl) (l := [(0, vU v)]) rfl (by rfl) hM0 ?_
 refine st_seq ?_
 refine st_region [oF 0] (by rfl) ?_
 refine oR [oF 0] [(0, vU v)] [0] (by kernel_rfl) ?_
 refine ops_nil ?_
 refine fin_then ?_
 refine st_seq ?_
 refine st_seq ?_
 refine st_region [oF 0, oF 1, oF 2] (by rfl) ?_
 refine oR [oF 0, oF 1, oF 2] [(5, .bool (Int.tmod v 2 == 1)), (0, vU v)] [5, 0] (by kernel_rfl) ?_
 refine ops_nil ?_
 refine fin_then ?_
 refine st_if (b := (Int.tmod v 2 == 1)) rfl (fun hc1 => ?_) (fun hc1 => ?_)
 · --
  have hp := cnd_t hc1 hp
  refine st_seq ?_
  refine st_region [oF 0, oF 1, oF 2, oF 3, oF 4, oF 5] (by rfl) ?_
  refine oR [oF 0, oF 1, oF 2, oF 3, oF 4, oF 5] [(2, vI (IntKind.i64.wrap (IntKind.i64.wrap (0 - IntKind.i64.wrap (IntKind.u64.wrap (Int.tdiv v 2))) - 1)))] [2] (by kernel_rfl) ?_
  obtain ⟨x2, hv3, hp⟩ := obind hp
  refine ops_conv (l' := [(2, vI x2)]) (by rw [← Option.some.inj hv3]) (fun _ h => h) ?_
  refine ops_nil ?_
  refine fin_then ?_
  refine st_ret ?_
  refine fin_ret_then ?_
  have hq_ := Option.some.inj hp
  have hr0_ := hq_
  subst hr0_
  refine fin_ret [.tmp 2] [vI x2] rfl rfl (fun w_ hM => (.tmp rfl .nil)) (fun w_ hM => ?_)
  exact ⟨trivial, rfl, hM⟩
 · --
  have hp := cnd_f hc1 hp
  refine st_skip ?_
  refine fin_then ?_
  refine st_seq ?_
  refine st_region [oF 0, oF 1, oF 2, oF 3] (by rfl) ?_
  refine oR [oF 0, oF 1, oF 2, oF 3] [(2, vI (IntKind.i64.wrap (IntKind.u64.wrap (Int.tdiv v 2))))] [2] (by kernel_rfl) ?_
  refine ops_nil ?_
  refine fin_then ?_
  refine st_ret ?_
  have hq_ := Option.some.inj hp
  have hr0_ := hq_
  subst hr0_
  refine fin_ret [.tmp 2] [vI (IntKind.i64.wrap (IntKind.u64.wrap (Int.tdiv v 2)))] rfl rfl (fun w_ hM => (.tmp rfl .nil)) (fun w_ hM => ?_)
  exact ⟨trivial, rfl, hM⟩
end Go.Proofs.Ytfihfbkjomploaa.X
