/- The Go functions come to what the plain functions tell. No condition. -/
import Derived.Test.YthcniadbdjoecaaProg
import Derived.Test.YthcniadbdjoecaaFnR
import Derived.Test.YthcniadbdjoecaaEqR
namespace Go.Proofs.Ythcniadbdjoecaa.R
open Go Go.RowKit Go.Proofs.Ythcniadbdjoecaa.Sx
set_option linter.unusedVariables false
set_option maxHeartbeats 4000000
set_option maxRecDepth 100000
def tourref1_Room_Alive_v2__t0 : List Row := [⟨0, 32, 8⟩, ⟨1, 64, 32⟩, ⟨2, 128, 64⟩, ⟨4, 256, 128⟩, ⟨8, 512, 264⟩, ⟨24, 1024, 768⟩, ⟨8, 2048, 257⟩, ⟨72, 4096, 2304⟩, ⟨136, 8192, 4352⟩, ⟨264, 16384, 8448⟩, ⟨520, 32768, 16640⟩, ⟨1064, 65536, 34048⟩, ⟨2056, 131072, 65792⟩, ⟨4104, 262144, 131072⟩, ⟨8192, 524288, 262145⟩, ⟨24576, 1048576, 786432⟩, ⟨40960, 2097152, 1310720⟩, ⟨73728, 4194304, 2359296⟩, ⟨8192, 8388608, 262152⟩, ⟨270336, 16777216, 8650752⟩, ⟨663552, 33554432, 21233664⟩, ⟨1056768, 67108864, 33816576⟩, ⟨2105344, 134217728, 67371008⟩, ⟨4202496, 268435456, 134217728⟩, ⟨8388608, 536870912, 268435457⟩, ⟨25165824, 1073741824, 805306368⟩, ⟨41943040, 2147483648, 1342177280⟩, ⟨75497472, 4294967296, 2415919104⟩, ⟨8388608, 8589934592, 268435464⟩, ⟨276824064, 17179869184, 8858370048⟩, ⟨679477248, 34359738368, 21743271936⟩, ⟨1082130432, 68719476736, 34628173824⟩, ⟨8388608, 137438953472, 268435464⟩, ⟨4303355904, 274877906944, 137707388928⟩, ⟨10745806848, 549755813888, 343865819136⟩, ⟨17188257792, 1099511627776, 550024249344⟩, ⟨68719476735, 16, 1099511627776⟩]
theorem tourref1_Room_Alive_v2_ok (w0 w : World) (cs : List Chunk) (F : Nat → Prop) (W : World) (b_r : Nat) (A_r_0 : Option Addr) (c_r_0 : Nat) (r_0 : List Int) (y_r_0 : List Value) (A_r_1 : Option Addr) (c_r_1 : Nat) (r_1 : List Bool) (y_r_1 : List Value) (e_0 : Int) (e_1 : Int) (hM0 : Mem w0 (.blk b_r [sl A_r_0 r_0 c_r_0, sl A_r_1 r_1 c_r_1] 86 :: ow A_r_0 r_0 c_r_0 3 1 y_r_0 :: ow A_r_1 r_1 c_r_1 4 1 y_r_1 :: Fz F W :: cs) w) (h_r_0 : RepL (Rep.int .i64) F W r_0 y_r_0) (h_r_1 : RepL Rep.bool F W r_1 y_r_1) (t9001 : Bool) (hp : tourref1_Room_Alive_v2 r_0 r_1 e_0 e_1 = some t9001) : Calls Try.prog 44 #[vP b_r 0, .agg #[vI e_0, vI e_1]] w fun e w' => ∃ (y9002 : List Value), ∃ (y9004 : List Value), ((RepL (Rep.int .i64) F W r_0 y9002) ∧ (RepL Rep.bool F W r_1 y9004)) ∧ e = .returned (.bool t9001) ∧ Mem w0 (.blk b_r [sl A_r_0 r_0 c_r_0, sl A_r_1 r_1 c_r_1] 86 :: ow A_r_0 r_0 c_r_0 3 1 y9002 :: ow A_r_1 r_1 c_r_1 4 1 y9004 :: Fz F W :: cs) w' := by
 unfold tourref1_Room_Alive_v2 at hp
 refine sx_calls Try.func44 rfl (n := 41) (by kernel_rfl) (l := [(0, vP b_r 0), (1, .agg #[vI e_0, vI e_1])]) rfl (by rfl) hM0 ?_
 refine st_seq (st_region [oF 0, oF 1] (by rfl) ?_)
 refine ops_newB (d := some 3) [vI e_0, vI e_1] 35 (fun b1 => ⟨by kernel_rfl⟩) (fun w_ hM hS => trivial) (fun b1 => ?_)
 refine oQ [oF 1] [(3, vP b1 0), (0, vP b_r 0)] (by kernel_rfl) ?_
 refine ops_nil (fin_then ?_)
 refine st_join1 (σ := Bool) (L := fun x_ => match x_ with | t2 => [(4, .bool t2)]) (N := fun x_ => match x_ with | t2 => Mem w0 (.blk b_r [sl A_r_0 r_0 c_r_0, sl A_r_1 r_1 c_r_1] 86 :: ow A_r_0 r_0 c_r_0 3 1 y_r_0 :: ow A_r_1 r_1 c_r_1 4 1 y_r_1 :: Fz F W :: cs)) (I := fun x_ => match x_ with | t2 => (tourref1_Room_Alive_v2_j1 t2 = some t9001)) ?_ ?_
 ·
  rintro t2 hp
  unfold tourref1_Room_Alive_v2_j1 at hp
  refine st_ret ?_
  have hq_ := Option.some.inj hp
  have hr0_ := hq_
  subst hr0_
  refine fin_ret [.tmp 4] [.bool t2] rfl rfl (fun w_ hM => (.tmp rfl .nil)) (fun w_ hM => ?_)
  exact ⟨y_r_0, y_r_1, ⟨h_r_0, h_r_1⟩, rfl, hM⟩
 ·
  intro HJ1
  refine st_seq ?_
  refine st_region_fast tourref1_Room_Alive_v2__t0 [oT 0, oT 1, oT 2, oT 3, oT 4, oT 5, oT 6, oT 7, oT 8, oT 9, oT 10, oT 11, oT 12, oT 13, oT 14, oT 15, oT 16, oT 17, oT 18, oT 19, oT 20, oT 21, oT 22, oT 23, oT 24, oT 25, oT 26, oT 27, oT 28, oT 29, oT 30, oT 31, oT 32, oT 33, oT 34, oT 35, oT 36] (Mem w0 (.blk b1 [vI e_0, vI e_1] 35 :: .blk b_r [sl A_r_0 r_0 c_r_0, sl A_r_1 r_1 c_r_1] 86 :: ow A_r_0 r_0 c_r_0 3 1 y_r_0 :: ow A_r_1 r_1 c_r_1 4 1 y_r_1 :: Fz F W :: cs)) (by kernel_rfl) (by kernel_rfl) (by kernel_rfl) (by kernel_rfl) (by kernel_rfl) (fun _ d _ _ _ h => by cases d <;> exact h) (M' := Mem w0 (.blk b1 [vI e_0, vI e_1] 35 :: .blk b_r [sl A_r_0 r_0 c_r_0, sl A_r_1 r_1 c_r_1] 86 :: ow A_r_0 r_0 c_r_0 3 1 y_r_0 :: ow A_r_1 r_1 c_r_1 4 1 y_r_1 :: Fz F W :: cs)) (fun w_ hM => ⟨hM.drew, hM.drew.sub (.cons_cons _ (.cons_cons _ (.cons_cons _ (.cons_cons _ (.cons_cons _ (.refl _))))))⟩) ?_
  refine oQ [oT 0] [(5, vP b1 0), (3, vP b1 0), (0, vP b_r 0)] (by kernel_rfl) ?_
  refine ops_load (d := some 6) (an := [.v (vI e_0)]) (evs := [ld b1 0 (vI e_0)]) (v := vI e_0) ⟨by kernel_rfl⟩ (fun w_ hM => ⟨hM.cell 0 rfl rfl, rfl⟩) ?_
  refine oQ [oT 2, oT 3] [(8, .bool (decide (0 ≤ e_0))), (3, vP b1 0), (0, vP b_r 0)] (by kernel_rfl) ?_
  refine ops_bool (t := decide (0 ≤ e_0)) (l1 := [(8, .bool true), (3, vP b1 0), (0, vP b_r 0)]) (l2 := [(8, .bool false), (3, vP b1 0), (0, vP b_r 0)]) (fun h => by rw [h]) (fun h => by rw [h]) (fun hc3 => ?_) (fun hc3 => ?_)
  ·
   have hp := cnd_t hc3 hp
   refine oQ [oT 4] [(9, vP b1 0), (8, .bool true), (3, vP b1 0), (0, vP b_r 0)] (by kernel_rfl) ?_
   refine ops_load (d := some 10) (an := [.v (vI e_0)]) (evs := [ld b1 0 (vI e_0)]) (v := vI e_0) ⟨by kernel_rfl⟩ (fun w_ hM => ⟨hM.cell 0 rfl rfl, rfl⟩) ?_
   refine oQ [oT 6, oT 7, oT 8] [(13, vP b_r 1), (10, vI e_0), (8, .bool true), (3, vP b1 0), (0, vP b_r 0)] (by kernel_rfl) ?_
   refine ops_load (d := some 14) (an := [.v (sl A_r_1 r_1 c_r_1)]) (evs := [ld b_r 1 (sl A_r_1 r_1 c_r_1)]) (v := sl A_r_1 r_1 c_r_1) ⟨by kernel_rfl⟩ (fun w_ hM => ⟨hM.cell 1 rfl rfl, rfl⟩) ?_
   refine oQ [oT 10, oT 11, oT 12, oT 13] [(18, .bool (decide (e_0 < (r_1.length : Int)))), (3, vP b1 0), (0, vP b_r 0)] (by kernel_rfl) ?_
   refine ops_bool (t := decide (e_0 < (r_1.length : Int))) (l1 := [(18, .bool true), (3, vP b1 0), (0, vP b_r 0)]) (l2 := [(18, .bool false), (3, vP b1 0), (0, vP b_r 0)]) (fun h => by rw [h]) (fun h => by rw [h]) (fun hc4 => ?_) (fun hc4 => ?_)
   ·
    have hp := cnd_t hc4 hp
    refine oQ [oT 14, oT 15, oT 16] [(21, vP b_r 1), (18, .bool true), (3, vP b1 0), (0, vP b_r 0)] (by kernel_rfl) ?_
    refine ops_load (d := some 22) (an := [.v (sl A_r_1 r_1 c_r_1)]) (evs := [ld b_r 1 (sl A_r_1 r_1 c_r_1)]) (v := sl A_r_1 r_1 c_r_1) ⟨by kernel_rfl⟩ (fun w_ hM => ⟨hM.cell 1 rfl rfl, rfl⟩) ?_
    refine oQ [oT 18] [(23, vP b1 0), (22, sl A_r_1 r_1 c_r_1), (18, .bool true), (3, vP b1 0), (0, vP b_r 0)] (by kernel_rfl) ?_
    refine ops_load (d := some 24) (an := [.v (vI e_0)]) (evs := [ld b1 0 (vI e_0)]) (v := vI e_0) ⟨by kernel_rfl⟩ (fun w_ hM => ⟨hM.cell 0 rfl rfl, rfl⟩) ?_
    obtain ⟨x5, hv6, hp⟩ := obind hp
    obtain ⟨m7, hm8, hx9⟩ := idx_some hv6
    have hl12 := (List.getElem?_eq_some_iff.1 hx9).1
    refine ops_fact (fun w_ hM => hM.orowSome 3 rfl (Nat.lt_of_le_of_lt (Nat.zero_le _) hl12)) ?_
    rintro ⟨g13, rfl, -⟩
    obtain ⟨vs10, hr11, hq14⟩ := h_r_1.at_ m7 x5 hx9
    obtain rfl := hr11
    refine ops_val (op := (.indexAddr 84 (.tmp 22) (.tmp 24))) (d := some 25) (v := vP g13 (m7 * 1)) ⟨by kernel_rfl⟩ (run_indexRow Try.underlying84 (z := 1) (by kernel_rfl) rfl rfl hm8 hl12 rfl) ?_
    refine ops_load (d := some 26) (an := [.v (.bool x5)]) (evs := [.load ⟨g13, m7 * 1, none⟩ (.bool x5)]) (v := .bool x5) ⟨by kernel_rfl⟩ (fun w_ hM => ⟨hM.ocell 3 rfl (hq14 0 _ rfl), rfl⟩) ?_
    refine oQ [oT 22, oT 23] [(28, .bool x5), (3, vP b1 0), (0, vP b_r 0)] (by kernel_rfl) ?_
    refine ops_bool (t := x5) (l1 := [(28, .bool true), (3, vP b1 0), (0, vP b_r 0)]) (l2 := [(28, .bool false), (3, vP b1 0), (0, vP b_r 0)]) (fun h => by rw [h]) (fun h => by rw [h]) (fun hc15 => ?_) (fun hc15 => ?_)
    ·
     have hp := cnd_t hc15 hp
     refine oQ [oT 24, oT 25, oT 26] [(31, vP b_r 0), (28, .bool true), (3, vP b1 0)] (by kernel_rfl) ?_
     refine ops_load (d := some 32) (an := [.v (sl A_r_0 r_0 c_r_0)]) (evs := [ld b_r 0 (sl A_r_0 r_0 c_r_0)]) (v := sl A_r_0 r_0 c_r_0) ⟨by kernel_rfl⟩ (fun w_ hM => ⟨hM.cell 1 rfl rfl, rfl⟩) ?_
     refine oQ [oT 28] [(33, vP b1 0), (32, sl A_r_0 r_0 c_r_0), (28, .bool true), (3, vP b1 0)] (by kernel_rfl) ?_
     refine ops_load (d := some 34) (an := [.v (vI e_0)]) (evs := [ld b1 0 (vI e_0)]) (v := vI e_0) ⟨by kernel_rfl⟩ (fun w_ hM => ⟨hM.cell 0 rfl rfl, rfl⟩) ?_
     obtain ⟨x16, hv17, hp⟩ := obind hp
     obtain ⟨m18, hm19, hx20⟩ := idx_some hv17
     have hl23 := (List.getElem?_eq_some_iff.1 hx20).1
     refine ops_fact (fun w_ hM => hM.orowSome 2 rfl (Nat.lt_of_le_of_lt (Nat.zero_le _) hl23)) ?_
     rintro ⟨g24, rfl, -⟩
     obtain ⟨vs21, hr22, hq25⟩ := h_r_0.at_ m18 x16 hx20
     obtain rfl := hr22
     refine ops_val (op := (.indexAddr 23 (.tmp 32) (.tmp 34))) (d := some 35) (v := vP g24 (m18 * 1)) ⟨by kernel_rfl⟩ (run_indexRow Try.underlying23 (z := 1) (by kernel_rfl) rfl rfl hm19 hl23 rfl) ?_
     refine ops_load (d := some 36) (an := [.v (vI x16)]) (evs := [.load ⟨g24, m18 * 1, none⟩ (vI x16)]) (v := vI x16) ⟨by kernel_rfl⟩ (fun w_ hM => ⟨hM.ocell 2 rfl (hq25 0 _ rfl), rfl⟩) ?_
     refine oQ [oT 32] [(37, vP b1 1), (36, vI x16), (28, .bool true)] (by kernel_rfl) ?_
     refine ops_load (d := some 38) (an := [.v (vI e_1)]) (evs := [ld b1 1 (vI e_1)]) (v := vI e_1) ⟨by kernel_rfl⟩ (fun w_ hM => ⟨hM.cell 0 rfl rfl, rfl⟩) ?_
     refine oQ [oT 34, oT 35, oT 36] [(4, .bool (x16 == e_1))] (by kernel_rfl) ?_
     refine ops_nil ?_
     exact fin_join HJ1 (x16 == e_1) hp (look_has ⟨rfl, trivial⟩) (fun w_ hM => hM.pick 5 [1, 2, 3, 4] (by kernel_rfl) (by decide) rfl)
    ·
     have hp := cnd_f hc15 hp
     refine oQ [oT 24, oT 25, oT 26, oT 27, oT 28, oT 29, oT 30, oT 31, oT 32, oT 33, oT 34, oT 35, oT 36] [(4, .bool false)] (by kernel_rfl) ?_
     refine ops_nil ?_
     exact fin_join HJ1 false hp (look_has ⟨rfl, trivial⟩) (fun w_ hM => hM.pick 5 [1, 2, 3, 4] (by kernel_rfl) (by decide) rfl)
   ·
    have hp := cnd_f hc4 hp
    refine oQ [oT 14, oT 15, oT 16, oT 17, oT 18, oT 19, oT 20, oT 21, oT 22, oT 23, oT 24, oT 25, oT 26, oT 27, oT 28, oT 29, oT 30, oT 31, oT 32, oT 33, oT 34, oT 35, oT 36] [(4, .bool false)] (by kernel_rfl) ?_
    refine ops_nil ?_
    exact fin_join HJ1 false hp (look_has ⟨rfl, trivial⟩) (fun w_ hM => hM.pick 5 [1, 2, 3, 4] (by kernel_rfl) (by decide) rfl)
  ·
   have hp := cnd_f hc3 hp
   refine oQ [oT 4, oT 5, oT 6, oT 7, oT 8, oT 9, oT 10, oT 11, oT 12, oT 13, oT 14, oT 15, oT 16, oT 17, oT 18, oT 19, oT 20, oT 21, oT 22, oT 23, oT 24, oT 25, oT 26, oT 27, oT 28, oT 29, oT 30, oT 31, oT 32, oT 33, oT 34, oT 35, oT 36] [(4, .bool false)] (by kernel_rfl) ?_
   refine ops_nil ?_
   exact fin_join HJ1 false hp (look_has ⟨rfl, trivial⟩) (fun w_ hM => hM.pick 5 [1, 2, 3, 4] (by kernel_rfl) (by decide) rfl)
theorem tourref1_Room_Free_v2_ok (w0 w : World) (cs : List Chunk) (F : Nat → Prop) (W : World) (b_r : Nat) (A_r_0 : Option Addr) (c_r_0 : Nat) (r_0 : List Int) (y_r_0 : List Value) (A_r_1 : Option Addr) (c_r_1 : Nat) (r_1 : List Bool) (y_r_1 : List Value) (e_0 : Int) (e_1 : Int) (hM0 : Mem w0 (.blk b_r [sl A_r_0 r_0 c_r_0, sl A_r_1 r_1 c_r_1] 86 :: ow A_r_0 r_0 c_r_0 3 1 y_r_0 :: ow A_r_1 r_1 c_r_1 4 1 y_r_1 :: Fz F W :: cs) w) (h_r_0 : RepL (Rep.int .i64) F W r_0 y_r_0) (h_r_1 : RepL Rep.bool F W r_1 y_r_1) (i9001 : Int) (l9002 : List Int) (l9005 : List Bool) (hp : tourref1_Room_Free_v2 r_0 r_1 e_0 e_1 = some (i9001, l9002, l9005)) : Calls Try.prog 46 #[vP b_r 0, .agg #[vI e_0, vI e_1]] w fun e w' => ∃ (y9003 : List Value), ∃ (y9006 : List Value), ((RepL (Rep.int .i64) F W l9002 y9003) ∧ (RepL Rep.bool F W l9005 y9006)) ∧ e = .returned (vI i9001) ∧ Mem w0 (.blk b_r [sl A_r_0 l9002 c_r_0, sl A_r_1 l9005 c_r_1] 86 :: ow A_r_0 l9002 c_r_0 3 1 y9003 :: ow A_r_1 l9005 c_r_1 4 1 y9006 :: Fz F W :: cs) w' := by
 unfold tourref1_Room_Free_v2 at hp
 refine sx_calls Try.func46 rfl (n := 26) (by kernel_rfl) (l := [(0, vP b_r 0), (1, .agg #[vI e_0, vI e_1])]) rfl (by rfl) hM0 ?_
 refine st_seq (st_region [oF 0, oF 1] (by rfl) ?_)
 refine ops_newB (d := some 3) [vI e_0, vI e_1] 35 (fun b1 => ⟨by kernel_rfl⟩) (fun w_ hM hS => trivial) (fun b1 => ?_)
 refine oQ [oF 1] [(3, vP b1 0), (0, vP b_r 0)] (by kernel_rfl) ?_
 refine ops_nil (fin_then (st_seq (st_seq (st_region [oF 0, oF 1, oF 2, oF 3] (by rfl) ?_))))
 refine oQ [oF 0] [(5, vP b_r 0), (3, vP b1 0), (0, vP b_r 0)] (by kernel_rfl) ?_
 refine ops_mem (d := some 6) (an := [.v (vI e_0), .v (vI e_1)]) (evs := [ld b1 0 (vI e_0), ld b1 1 (vI e_1)]) (v := .agg #[vI e_0, vI e_1]) ⟨by kernel_rfl⟩ (fun w_ hM hS => ⟨w_, ⟨hM.cell 0 rfl rfl, hM.cell 0 rfl rfl, rfl⟩, hM, trivial⟩) ?_
 obtain ⟨x2, hv3, hp⟩ := obind hp
 refine ops_callI (σ := (List Value) × (List Value)) (d := some 7) (f := 44) (args := #[vP b_r 0, .agg #[vI e_0, vI e_1]]) (v := (fun x_ => match x_ with | (y4, y5) => .bool x2)) (I := (fun x_ => match x_ with | (y4, y5) => (RepL (Rep.int .i64) F W r_0 y4) ∧ (RepL Rep.bool F W r_1 y5))) (M' := (fun x_ => match x_ with | (y4, y5) => Mem w0 (.blk b1 [vI e_0, vI e_1] 35 :: .blk b_r [sl A_r_0 r_0 c_r_0, sl A_r_1 r_1 c_r_1] 86 :: ow A_r_0 r_0 c_r_0 3 1 y4 :: ow A_r_1 r_1 c_r_1 4 1 y5 :: Fz F W :: cs))) ⟨by kernel_rfl⟩ (fun w_ hM hS => (tourref1_Room_Alive_v2_ok w0 w_ (.blk b1 [vI e_0, vI e_1] 35 :: cs) F W b_r A_r_0 c_r_0 r_0 y_r_0 A_r_1 c_r_1 r_1 y_r_1 e_0 e_1 (hM.pick 5 [1, 2, 3, 4, 0] (by kernel_rfl) (by decide) rfl) h_r_0 h_r_1 x2 hv3).mono (by rintro e w' ⟨y4, y5, ⟨h6, h7⟩, rfl, h'⟩; have h' : Mem w0 (.blk b1 [vI e_0, vI e_1] 35 :: .blk b_r [sl A_r_0 r_0 c_r_0, sl A_r_1 r_1 c_r_1] 86 :: ow A_r_0 r_0 c_r_0 3 1 y4 :: ow A_r_1 r_1 c_r_1 4 1 y5 :: Fz F W :: cs) w' := (h'.pick 5 [4, 0, 1, 2, 3] (by kernel_rfl) (by decide) rfl); exact ⟨(y4, y5), ⟨h6, h7⟩, rfl, h', trivial⟩)) ?_
 rintro ⟨y4, y5⟩ ⟨h6, h7⟩
 refine oQ [oF 3] [(8, .bool (!x2)), (3, vP b1 0), (0, vP b_r 0)] (by kernel_rfl) ?_
 refine ops_nil (fin_then ?_)
 refine st_if (b := !x2) rfl (fun hc8 => ?_) (fun hc8 => ?_)
 ·
  have hp := cnd_t hc8 hp
  refine st_seq (st_region [oF 0] (by rfl) ?_)
  refine oQ [oF 0] [(4, vI 4)] (by kernel_rfl) ?_
  refine ops_nil (fin_then (st_ret (fin_ret_then ?_)))
  have hq_ := Option.some.inj hp
  obtain ⟨hr0_, hq_⟩ := Prod.mk.inj hq_
  obtain ⟨hr1_, hq_⟩ := Prod.mk.inj hq_
  have hr2_ := hq_
  subst hr0_
  subst hr1_
  subst hr2_
  refine fin_ret [.tmp 4] [vI 4] rfl rfl (fun w_ hM => (.tmp rfl .nil)) (fun w_ hM => ?_)
  exact ⟨y4, y5, ⟨h6, h7⟩, rfl, hM.pick 5 [1, 2, 3, 4] (by kernel_rfl) (by decide) rfl⟩
 ·
  have hp := cnd_f hc8 hp
  refine st_skip (fin_then (st_seq ?_))
  refine st_region_draw [oT 0, oT 1, oT 2, oT 3, oT 4, oT 5, oT 6, oF 7] (Mem w0 (.blk b1 [vI e_0, vI e_1] 35 :: .blk b_r [sl A_r_0 r_0 c_r_0, sl A_r_1 r_1 c_r_1] 86 :: ow A_r_0 r_0 c_r_0 3 1 y4 :: Fz F W :: cs)) (by kernel_rfl) (by kernel_rfl) (by kernel_rfl) (fun _ d _ _ _ h => by cases d <;> exact h) (M' := Mem w0 (.blk b1 [vI e_0, vI e_1] 35 :: .blk b_r [sl A_r_0 r_0 c_r_0, sl A_r_1 r_1 c_r_1] 86 :: ow A_r_0 r_0 c_r_0 3 1 y4 :: ow A_r_1 r_1 c_r_1 4 1 y5 :: Fz F W :: cs)) (fun w_ hM => ⟨hM.drew, hM.drew.sub (.cons_cons _ (.cons_cons _ (.cons_cons _ (.cons _ (.cons_cons _ (.refl _))))))⟩) ?_
  refine oQ [oT 0, oT 1, oT 2] [(11, vP b_r 1), (3, vP b1 0), (0, vP b_r 0)] (by kernel_rfl) ?_
  refine ops_load (d := some 12) (an := [.v (sl A_r_1 r_1 c_r_1)]) (evs := [ld b_r 1 (sl A_r_1 r_1 c_r_1)]) (v := sl A_r_1 r_1 c_r_1) ⟨by kernel_rfl⟩ (fun w_ hM => ⟨hM.cell 1 rfl rfl, rfl⟩) ?_
  refine oQ [oT 4] [(13, vP b1 0), (12, sl A_r_1 r_1 c_r_1), (3, vP b1 0), (0, vP b_r 0)] (by kernel_rfl) ?_
  refine ops_load (d := some 14) (an := [.v (vI e_0)]) (evs := [ld b1 0 (vI e_0)]) (v := vI e_0) ⟨by kernel_rfl⟩ (fun w_ hM => ⟨hM.cell 0 rfl rfl, rfl⟩) ?_
  obtain ⟨x9, hv10, hp⟩ := obind hp
  obtain ⟨m11, hm12, hx13⟩ := idx_some hv10
  have hl16 := (List.getElem?_eq_some_iff.1 hx13).1
  refine ops_fact (fun w_ hM => hM.orowSome 3 rfl (Nat.lt_of_le_of_lt (Nat.zero_le _) hl16)) ?_
  rintro ⟨g17, rfl, -⟩
  obtain ⟨vs14, hr15, hq18⟩ := h7.at_ m11 x9 hx13
  obtain rfl := hr15
  refine ops_val (op := (.indexAddr 84 (.tmp 12) (.tmp 14))) (d := some 15) (v := vP g17 (m11 * 1)) ⟨by kernel_rfl⟩ (run_indexRow Try.underlying84 (z := 1) (by kernel_rfl) rfl rfl hm12 hl16 rfl) ?_
  refine oQ [] [(15, vP g17 (m11 * 1)), (3, vP b1 0), (0, vP b_r 0)] (by kernel_rfl) ?_
  obtain ⟨l19, hv20, hp⟩ := obind hp
  obtain ⟨m21, hm22, hl23, he24⟩ := upd_some hv20
  obtain rfl : m11 = m21 := by have := hm12; omega
  have hl25 : r_1.length = l19.length := by rw [he24, List.length_set]
  obtain ⟨y26, hy27⟩ : ∃ y_, setAll y5 (m11 * 1 + 0) [.bool false] = y_ := ⟨_, rfl⟩
  have h28 : RepL Rep.bool F W l19 y26 := by rw [he24, ← hy27]; exact RepL.set h7 (List.getElem?_eq_getElem hl23) (fun vs_ hr_ _ => by obtain rfl := hr_; exact ⟨rfl, Nat.le_of_ble_eq_true rfl⟩)
  refine ops_store (an := []) (evs := [.store ⟨g17, m11 * 1, none⟩ (.bool false)]) ⟨by kernel_rfl⟩ (fun w_ hM hS => let ⟨w', he, h'⟩ := hM.ostore' 3 rfl (m11 * 1 + 0) [.bool false] (by have z_ : y5.length = r_1.length * 1 := h7.len; have y_ : (m11 + 1) * 1 ≤ r_1.length * 1 := Nat.mul_le_mul_right _ hl23; rw [Nat.add_mul] at y_; simp only [List.length_cons, List.length_nil]; omega) hl25 hy27; ⟨w', he, h', (by exact h'.sub (.cons_cons _ (.cons_cons _ (.cons_cons _ (.cons _ (.cons_cons _ (.refl _)))))))⟩) ?_
  refine ops_conv (l' := [(15, vP g17 (m11 * 1)), (3, vP b1 0), (0, vP b_r 0)]) (M' := Mem w0 (.blk b1 [vI e_0, vI e_1] 35 :: .blk b_r [sl A_r_0 r_0 c_r_0, sl (sa g17) l19 c_r_1] 86 :: ow A_r_0 r_0 c_r_0 3 1 y4 :: ow (sa g17) l19 c_r_1 4 1 y26 :: Fz F W :: cs)) (by first | rfl | ((try dsimp only [sl, ow]); rw [hl25])) (fun w_ hM => by first | exact hM | ((try dsimp only [sl, ow] at hM ⊢); rw [hl25] at hM; exact hM)) ?_
  refine ops_nil (fin_then (st_seq ?_))
  refine st_region_draw [oT 0, oT 1, oT 2, oT 3, oT 4, oT 5, oT 6, oF 7, oT 8, oT 9, oF 10] (Mem w0 (.blk b1 [vI e_0, vI e_1] 35 :: .blk b_r [sl A_r_0 r_0 c_r_0, sl (sa g17) l19 c_r_1] 86 :: ow (sa g17) l19 c_r_1 4 1 y26 :: Fz F W :: cs)) (by kernel_rfl) (by kernel_rfl) (by kernel_rfl) (fun _ d _ _ _ h => by cases d <;> exact h) (M' := Mem w0 (.blk b1 [vI e_0, vI e_1] 35 :: .blk b_r [sl A_r_0 r_0 c_r_0, sl (sa g17) l19 c_r_1] 86 :: ow A_r_0 r_0 c_r_0 3 1 y4 :: ow (sa g17) l19 c_r_1 4 1 y26 :: Fz F W :: cs)) (fun w_ hM => ⟨hM.drew, hM.drew.sub (.cons_cons _ (.cons_cons _ (.cons _ (.cons_cons _ (.cons_cons _ (.refl _))))))⟩) ?_
  refine oQ [oT 0, oT 1, oT 2] [(18, vP b_r 0), (3, vP b1 0)] (by kernel_rfl) ?_
  refine ops_load (d := some 19) (an := [.v (sl A_r_0 r_0 c_r_0)]) (evs := [ld b_r 0 (sl A_r_0 r_0 c_r_0)]) (v := sl A_r_0 r_0 c_r_0) ⟨by kernel_rfl⟩ (fun w_ hM => ⟨hM.cell 1 rfl rfl, rfl⟩) ?_
  refine oQ [oT 4] [(20, vP b1 0), (19, sl A_r_0 r_0 c_r_0)] (by kernel_rfl) ?_
  refine ops_load (d := some 21) (an := [.v (vI e_0)]) (evs := [ld b1 0 (vI e_0)]) (v := vI e_0) ⟨by kernel_rfl⟩ (fun w_ hM => ⟨hM.cell 0 rfl rfl, rfl⟩) ?_
  obtain ⟨x30, hv31, hp⟩ := obind hp
  obtain ⟨m32, hm33, hx34⟩ := idx_some hv31
  have hl37 := (List.getElem?_eq_some_iff.1 hx34).1
  refine ops_fact (fun w_ hM => hM.orowSome 2 rfl (Nat.lt_of_le_of_lt (Nat.zero_le _) hl37)) ?_
  rintro ⟨g38, rfl, -⟩
  obtain ⟨vs35, hr36, hq39⟩ := h6.at_ m32 x30 hx34
  obtain rfl := hr36
  refine ops_val (op := (.indexAddr 23 (.tmp 19) (.tmp 21))) (d := some 22) (v := vP g38 (m32 * 1)) ⟨by kernel_rfl⟩ (run_indexRow Try.underlying23 (z := 1) (by kernel_rfl) rfl rfl hm33 hl37 rfl) ?_
  refine ops_mem (d := some 23) (an := [.v (vI x30)]) (evs := [.load ⟨g38, m32 * 1, none⟩ (vI x30)]) (v := vI x30) ⟨by kernel_rfl⟩ (fun w_ hM hS => ⟨w_, ⟨hM.ocell 2 rfl (hq39 0 _ rfl), rfl⟩, hM, hS⟩) ?_
  refine oQ [oT 8] [(24, vI (IntKind.i64.wrap (x30 + 1))), (21, vI e_0), (19, sl (sa g38) r_0 c_r_0)] (by kernel_rfl) ?_
  obtain ⟨x40, hv41, hp⟩ := obind hp
  obtain ⟨m42, hm43, hx44⟩ := idx_some hv41
  have hl47 := (List.getElem?_eq_some_iff.1 hx44).1
  obtain ⟨vs45, hr46, hq48⟩ := h6.at_ m42 x40 hx44
  obtain rfl := hr46
  refine ops_val (op := (.indexAddr 23 (.tmp 19) (.tmp 21))) (d := some 25) (v := vP g38 (m42 * 1)) ⟨by kernel_rfl⟩ (run_indexRow Try.underlying23 (z := 1) (by kernel_rfl) rfl rfl hm43 hl47 rfl) ?_
  refine oQ [] [(25, vP g38 (m42 * 1)), (24, vI (IntKind.i64.wrap (x30 + 1)))] (by kernel_rfl) ?_
  obtain ⟨l49, hv50, hp⟩ := obind hp
  obtain ⟨m51, hm52, hl53, he54⟩ := upd_some hv50
  obtain rfl : m42 = m51 := by have := hm43; omega
  have hl55 : r_0.length = l49.length := by rw [he54, List.length_set]
  obtain ⟨y56, hy57⟩ : ∃ y_, setAll y4 (m42 * 1 + 0) [vI (IntKind.i64.wrap (x30 + 1))] = y_ := ⟨_, rfl⟩
  have h58 : RepL (Rep.int .i64) F W l49 y56 := by rw [he54, ← hy57]; exact RepL.set h6 (List.getElem?_eq_getElem hl53) (fun vs_ hr_ _ => by obtain rfl := hr_; exact ⟨rfl, Nat.le_of_ble_eq_true rfl⟩)
  refine ops_store (an := []) (evs := [.store ⟨g38, m42 * 1, none⟩ (vI (IntKind.i64.wrap (x30 + 1)))]) ⟨by kernel_rfl⟩ (fun w_ hM hS => let ⟨w', he, h'⟩ := hM.ostore' 2 rfl (m42 * 1 + 0) [vI (IntKind.i64.wrap (x30 + 1))] (by have z_ : y4.length = r_0.length * 1 := h6.len; have y_ : (m42 + 1) * 1 ≤ r_0.length * 1 := Nat.mul_le_mul_right _ hl53; rw [Nat.add_mul] at y_; simp only [List.length_cons, List.length_nil]; omega) hl55 hy57; ⟨w', he, h', (by exact h'.sub (.cons_cons _ (.cons_cons _ (.cons _ (.cons_cons _ (.cons_cons _ (.refl _)))))))⟩) ?_
  refine ops_conv (l' := [(25, vP g38 (m42 * 1)), (24, vI (IntKind.i64.wrap (x30 + 1)))]) (M' := Mem w0 (.blk b1 [vI e_0, vI e_1] 35 :: .blk b_r [sl (sa g38) l49 c_r_0, sl (sa g17) l19 c_r_1] 86 :: ow (sa g38) l49 c_r_0 3 1 y56 :: ow (sa g17) l19 c_r_1 4 1 y26 :: Fz F W :: cs)) (by first | rfl | ((try dsimp only [sl, ow]); rw [hl55])) (fun w_ hM => by first | exact hM | ((try dsimp only [sl, ow] at hM ⊢); rw [hl55] at hM; exact hM)) ?_
  refine ops_nil (fin_then (st_seq (st_region [oF 0] (by rfl) ?_)))
  refine oQ [oF 0] [(4, vI 0)] (by kernel_rfl) ?_
  refine ops_nil (fin_then (st_ret ?_))
  have hq_ := Option.some.inj hp
  obtain ⟨hr0_, hq_⟩ := Prod.mk.inj hq_
  obtain ⟨hr1_, hq_⟩ := Prod.mk.inj hq_
  have hr2_ := hq_
  subst hr0_
  subst hr1_
  subst hr2_
  refine fin_ret [.tmp 4] [vI 0] rfl rfl (fun w_ hM => (.tmp rfl .nil)) (fun w_ hM => ?_)
  exact ⟨y56, y26, ⟨h58, h28⟩, rfl, hM.pick 5 [1, 2, 3, 4] (by kernel_rfl) (by decide) rfl⟩
theorem tourref1_Room_List_ok (w0 w : World) (cs : List Chunk) (F : Nat → Prop) (W : World) (b_r : Nat) (A_r_0 : Option Addr) (c_r_0 : Nat) (r_0 : List Int) (y_r_0 : List Value) (A_r_1 : Option Addr) (c_r_1 : Nat) (r_1 : List Bool) (y_r_1 : List Value) (hM0 : Mem w0 (.blk b_r [sl A_r_0 r_0 c_r_0, sl A_r_1 r_1 c_r_1] 86 :: ow A_r_0 r_0 c_r_0 3 1 y_r_0 :: ow A_r_1 r_1 c_r_1 4 1 y_r_1 :: Fz F W :: cs) w) (h_r_0 : RepL (Rep.int .i64) F W r_0 y_r_0) (h_r_1 : RepL Rep.bool F W r_1 y_r_1) (l9003 : List api_Ent) (hp : tourref1_Room_List r_0 r_1 = some l9003) : Calls Try.prog 48 #[vP b_r 0] w fun e w' => ∃ (A9001 : Option Addr), ∃ (c9002 : Nat), ∃ (y9004 : List Value), ∃ (y9006 : List Value), ∃ (y9008 : List Value), ((RepL R_api_Ent F W l9003 y9004) ∧ (RepL (Rep.int .i64) F W r_0 y9006) ∧ (RepL Rep.bool F W r_1 y9008)) ∧ e = .returned (sl A9001 l9003 c9002) ∧ Mem w0 (ow A9001 l9003 c9002 35 2 y9004 :: .blk b_r [sl A_r_0 r_0 c_r_0, sl A_r_1 r_1 c_r_1] 86 :: ow A_r_0 r_0 c_r_0 3 1 y9006 :: ow A_r_1 r_1 c_r_1 4 1 y9008 :: Fz F W :: cs) w' := by
 unfold tourref1_Room_List at hp
 refine sx_calls Try.func48 rfl (n := 31) (by kernel_rfl) (l := [(0, vP b_r 0)]) rfl (by rfl) hM0 ?_
 refine st_seq (st_region [oF 0] (by rfl) ?_)
 refine oQ [oF 0] [(0, vP b_r 0)] (by kernel_rfl) ?_
 refine ops_nil (fin_then (st_seq (st_region [oF 0] (by rfl) ?_)))
 refine oQ [oF 0] [(3, .slice none 0 0), (0, vP b_r 0)] (by kernel_rfl) ?_
 refine ops_nil (fin_then ?_)
 refine st_join1 (σ := (Option Addr) × Nat × (List api_Ent) × (List Value)) (L := fun x_ => match x_ with | (A1, c2, l3, y4) => [(3, sl A1 l3 c2)]) (N := fun x_ => match x_ with | (A1, c2, l3, y4) => Mem w0 (ow A1 l3 c2 35 2 y4 :: .blk b_r [sl A_r_0 r_0 c_r_0, sl A_r_1 r_1 c_r_1] 86 :: ow A_r_0 r_0 c_r_0 3 1 y_r_0 :: ow A_r_1 r_1 c_r_1 4 1 y_r_1 :: Fz F W :: cs)) (I := fun x_ => match x_ with | (A1, c2, l3, y4) => (tourref1_Room_List_j1 l3 = some l9003) ∧ (RepL R_api_Ent F W l3 y4)) ?_ ?_
 ·
  rintro ⟨A1, c2, l3, y4⟩ ⟨hp, h5⟩
  unfold tourref1_Room_List_j1 at hp
  refine st_seq (st_region [oF 0, oF 1] (by rfl) ?_)
  refine oQ [oF 0, oF 1] [(2, sl A1 l3 c2)] (by kernel_rfl) ?_
  refine ops_nil (fin_then (st_ret ?_))
  have hq_ := Option.some.inj hp
  have hr0_ := hq_
  subst hr0_
  refine fin_ret [.tmp 2] [sl A1 l3 c2] rfl rfl (fun w_ hM => (.tmp rfl .nil)) (fun w_ hM => ?_)
  exact ⟨A1, c2, y4, y_r_0, y_r_1, ⟨h5, h_r_0, h_r_1⟩, rfl, hM⟩
 ·
  intro HJ1
  refine st_seq (st_seq (st_region [oF 0, oF 1, oF 2, oF 3, oF 4, oF 5] (by rfl) ?_))
  refine oQ [oF 0, oF 1, oF 2] [(8, vP b_r 1), (3, .slice none 0 0), (0, vP b_r 0)] (by kernel_rfl) ?_
  refine ops_mem (d := some 9) (an := [.v (sl A_r_1 r_1 c_r_1)]) (evs := [ld b_r 1 (sl A_r_1 r_1 c_r_1)]) (v := sl A_r_1 r_1 c_r_1) ⟨by kernel_rfl⟩ (fun w_ hM hS => ⟨w_, ⟨hM.cell 0 rfl rfl, rfl⟩, hM, trivial⟩) ?_
  refine oQ [oF 4, oF 5] [(11, vI 0), (10, vI (r_1.length : Int)), (9, sl A_r_1 r_1 c_r_1), (3, .slice none 0 0), (0, vP b_r 0)] (by kernel_rfl) ?_
  refine ops_nil (fin_then (st_block ?_))
  refine st_conv (l' := [(11, vI 0), (10, vI (r_1.length : Int)), (9, sl A_r_1 r_1 c_r_1), (3, .slice none 0 0), (0, vP b_r 0)]) (M' := Mem w0 (ow none ([] : List api_Ent) 0 35 2 [] :: .blk b_r [sl A_r_0 r_0 c_r_0, sl A_r_1 r_1 c_r_1] 86 :: ow A_r_0 r_0 c_r_0 3 1 y_r_0 :: ow A_r_1 r_1 c_r_1 4 1 y_r_1 :: Fz F W :: cs)) rfl (fun w_ h => h.onil none 35 2) ?_
  obtain ⟨r2, hl2, hk2⟩ := obind hp
  refine st_loopP (σ := (List api_Ent) × Int) (ρ := (List api_Ent)) (γ := (Option Addr) × Nat × (List Value)) hl2 (none, 0, []) (fun s_ g_ => match s_, g_ with | (l8, i11), (A6, c7, y9) => [(0, vP b_r 0), (3, sl A6 l8 c7), (9, sl A_r_1 r_1 c_r_1), (10, vI (r_1.length : Int)), (11, vI i11)]) (fun s_ g_ => match s_, g_ with | (l8, i11), (A6, c7, y9) => Mem w0 (.blk b_r [sl A_r_0 r_0 c_r_0, sl A_r_1 r_1 c_r_1] 86 :: ow A_r_0 r_0 c_r_0 3 1 y_r_0 :: ow A_r_1 r_1 c_r_1 4 1 y_r_1 :: ow A6 l8 c7 35 2 y9 :: Fz F W :: cs)) (fun s_ g_ => match s_, g_ with | (l8, i11), (A6, c7, y9) => (RepL R_api_Ent F W l8 y9)) (RepL.nil (R := R_api_Ent)) (look_has ⟨rfl, rfl, rfl, rfl, rfl, trivial⟩) (fun w_ hM => hM.pick 5 [1, 2, 3, 0, 4] (by kernel_rfl) (by decide) rfl) ?_
  rintro ⟨l8, i11⟩ ⟨A6, c7, y9⟩ o2 h10 hs_ hd2
  have hp : (tourref1_Room_List_l2 r_1 r_0) l8 i11 = some o2 := hs_
  clear hs_
  unfold tourref1_Room_List_l2 at hp
  refine st_seq (st_region [oF 0] (by rfl) ?_)
  refine oQ [oF 0] [(12, .bool (decide (i11 < (r_1.length : Int)))), (0, vP b_r 0), (3, sl A6 l8 c7), (9, sl A_r_1 r_1 c_r_1), (10, vI (r_1.length : Int)), (11, vI i11)] (by kernel_rfl) ?_
  refine ops_nil (fin_then (st_seq ?_))
  refine st_if (b := decide (i11 < (r_1.length : Int))) rfl (fun hc12 => ?_) (fun hc12 => ?_)
  ·
   have hp := cnd_t hc12 hp
   refine st_skip (fin_then ?_)
   refine st_join1 (σ := (Option Addr) × Nat × (List api_Ent) × (List Value)) (L := fun x_ => match x_ with | (A13, c14, l15, y16) => [(0, vP b_r 0), (3, sl A13 l15 c14), (9, sl A_r_1 r_1 c_r_1), (10, vI (r_1.length : Int)), (11, vI i11)]) (N := fun x_ => match x_ with | (A13, c14, l15, y16) => Mem w0 (.blk b_r [sl A_r_0 r_0 c_r_0, sl A_r_1 r_1 c_r_1] 86 :: ow A_r_0 r_0 c_r_0 3 1 y_r_0 :: ow A_r_1 r_1 c_r_1 4 1 y_r_1 :: ow A13 l15 c14 35 2 y16 :: Fz F W :: cs)) (I := fun x_ => match x_ with | (A13, c14, l15, y16) => ((tourref1_Room_List_j3 i11) l15 = some o2) ∧ (RepL R_api_Ent F W l15 y16)) ?_ ?_
   ·
    rintro ⟨A13, c14, l15, y16⟩ ⟨hp, h17⟩
    unfold tourref1_Room_List_j3 at hp
    refine st_region [oF 0, oF 1] (by rfl) ?_
    refine oQ [oF 0, oF 1] [(11, vI (IntKind.i64.wrap (i11 + 1))), (0, vP b_r 0), (3, sl A13 l15 c14), (9, sl A_r_1 r_1 c_r_1), (10, vI (r_1.length : Int))] (by kernel_rfl) ?_
    refine ops_nil ?_
    exact fin_again (l15, IntKind.i64.wrap (i11 + 1)) (A13, c14, y16) (Option.some.inj hp).symm h17 (look_has ⟨rfl, rfl, rfl, rfl, rfl, trivial⟩) (fun w_ hM => hM)
   ·
    intro HJ3
    refine st_seq (st_block (st_seq (st_region [oF 0, oF 1, oF 2, oF 3, oF 4] (by rfl) ?_)))
    refine oQ [oF 0] [(13, vI i11), (0, vP b_r 0), (3, sl A6 l8 c7), (9, sl A_r_1 r_1 c_r_1), (10, vI (r_1.length : Int)), (11, vI i11)] (by kernel_rfl) ?_
    obtain ⟨x18, hv19, hp⟩ := obind hp
    obtain ⟨m20, hm21, hx22⟩ := idx_some hv19
    have hl25 := (List.getElem?_eq_some_iff.1 hx22).1
    refine ops_fact (fun w_ hM => hM.orowSome 2 rfl (Nat.lt_of_le_of_lt (Nat.zero_le _) hl25)) ?_
    rintro ⟨g26, rfl, -⟩
    obtain ⟨vs23, hr24, hq27⟩ := h_r_1.at_ m20 x18 hx22
    obtain rfl := hr24
    refine ops_val (op := (.indexAddr 84 (.tmp 9) (.tmp 11))) (d := some 14) (v := vP g26 (m20 * 1)) ⟨by kernel_rfl⟩ (run_indexRow Try.underlying84 (z := 1) (by kernel_rfl) rfl rfl hm21 hl25 rfl) ?_
    refine ops_mem (d := some 15) (an := [.v (.bool x18)]) (evs := [.load ⟨g26, m20 * 1, none⟩ (.bool x18)]) (v := .bool x18) ⟨by kernel_rfl⟩ (fun w_ hM hS => ⟨w_, ⟨hM.ocell 2 rfl (hq27 0 _ rfl), rfl⟩, hM, trivial⟩) ?_
    refine oQ [oF 3, oF 4] [(5, .bool x18), (4, vI i11), (0, vP b_r 0), (3, sl A6 l8 c7), (9, sl (sa g26) r_1 c_r_1), (10, vI (r_1.length : Int)), (11, vI i11)] (by kernel_rfl) ?_
    refine ops_nil (fin_then (st_seq (st_region [oF 0] (by rfl) ?_)))
    refine oQ [oF 0] [(16, .bool x18), (4, vI i11), (0, vP b_r 0), (3, sl A6 l8 c7), (9, sl (sa g26) r_1 c_r_1), (10, vI (r_1.length : Int)), (11, vI i11)] (by kernel_rfl) ?_
    refine ops_nil (fin_then ?_)
    refine st_if (b := x18) rfl (fun hc28 => ?_) (fun hc28 => ?_)
    ·
     have hp := cnd_t hc28 hp
     refine st_region [oF 0, oF 1, oF 2, oF 3, oF 4, oF 5, oF 6, oF 7, oF 8, oF 9, oF 10, oF 11, oF 12] (by rfl) ?_
     refine oQ [oF 0, oF 1, oF 2, oF 3, oF 4] [(21, vP b_r 0), (18, vI i11), (17, sl A6 l8 c7), (4, vI i11), (0, vP b_r 0), (3, sl A6 l8 c7), (9, sl (sa g26) r_1 c_r_1), (10, vI (r_1.length : Int)), (11, vI i11)] (by kernel_rfl) ?_
     refine ops_mem (d := some 22) (an := [.v (sl A_r_0 r_0 c_r_0)]) (evs := [ld b_r 0 (sl A_r_0 r_0 c_r_0)]) (v := sl A_r_0 r_0 c_r_0) ⟨by kernel_rfl⟩ (fun w_ hM hS => ⟨w_, ⟨hM.cell 0 rfl rfl, rfl⟩, hM, trivial⟩) ?_
     refine oQ [oF 6] [(23, vI i11), (22, sl A_r_0 r_0 c_r_0), (18, vI i11), (17, sl A6 l8 c7), (0, vP b_r 0), (3, sl A6 l8 c7), (9, sl (sa g26) r_1 c_r_1), (10, vI (r_1.length : Int)), (11, vI i11)] (by kernel_rfl) ?_
     obtain ⟨x29, hv30, hp⟩ := obind hp
     obtain ⟨m31, hm32, hx33⟩ := idx_some hv30
     have hl36 := (List.getElem?_eq_some_iff.1 hx33).1
     refine ops_fact (fun w_ hM => hM.orowSome 1 rfl (Nat.lt_of_le_of_lt (Nat.zero_le _) hl36)) ?_
     rintro ⟨g37, rfl, -⟩
     obtain ⟨vs34, hr35, hq38⟩ := h_r_0.at_ m31 x29 hx33
     obtain rfl := hr35
     refine ops_val (op := (.indexAddr 23 (.tmp 22) (.tmp 23))) (d := some 24) (v := vP g37 (m31 * 1)) ⟨by kernel_rfl⟩ (run_indexRow Try.underlying23 (z := 1) (by kernel_rfl) rfl rfl hm32 hl36 rfl) ?_
     refine ops_mem (d := some 25) (an := [.v (vI x29)]) (evs := [.load ⟨g37, m31 * 1, none⟩ (vI x29)]) (v := vI x29) ⟨by kernel_rfl⟩ (fun w_ hM hS => ⟨w_, ⟨hM.ocell 1 rfl (hq38 0 _ rfl), rfl⟩, hM, trivial⟩) ?_
     refine oQ [oF 9] [(26, .agg #[vI i11, vI x29]), (17, sl A6 l8 c7), (0, vP b_r 0), (3, sl A6 l8 c7), (9, sl (sa g26) r_1 c_r_1), (10, vI (r_1.length : Int)), (11, vI i11)] (by kernel_rfl) ?_
     have h39 : RepL R_api_Ent F W ([(api_Ent.mk i11 x29)] : List api_Ent) ([vI i11, vI x29]) := (RepL.cons (R := R_api_Ent) (F := F) (w := W) (vs := [vI i11, vI x29]) (ys := []) (enc_api_Ent) RepL.nil)
     refine ops_new (d := some 27) (o := .cells ([vI i11, vI x29] : List Value).toArray 35) (v := fun g40 => .slice (sa g40) ([(api_Ent.mk i11 x29)] : List api_Ent).length 1) (M' := fun g40 => Mem w0 (orow (sa g40) ([(api_Ent.mk i11 x29)] : List api_Ent).length 1 35 2 ([vI i11, vI x29]) :: .blk b_r [sl (sa g37) r_0 c_r_0, sl (sa g26) r_1 c_r_1] 86 :: ow (sa g37) r_0 c_r_0 3 1 y_r_0 :: ow (sa g26) r_1 c_r_1 4 1 y_r_1 :: ow A6 l8 c7 35 2 y9 :: Fz F W :: cs)) (fun g40 => ⟨by kernel_rfl⟩) (fun w_ hM hS => ⟨hM.onew [vI i11, vI x29] 35 1 2 rfl (by decide), trivial⟩) (fun g40 => ?_)
     obtain ⟨l41, hv42, hp⟩ := obind hp
     obtain ⟨he43, hb44⟩ := app_some hv42
     obtain ⟨y45, hy46⟩ : ∃ y_, y9 ++ ([vI i11, vI x29]) = y_ := ⟨_, rfl⟩
     have h47 : RepL R_api_Ent F W l41 y45 := by rw [he43, ← hy46]; exact RepL.app h10 h39
     refine ops_appendO (x := (Go.Operand.tmp 17)) (y := (Go.Operand.tmp 27)) (t := 40) (e := 35) (d := some 28) (n' := l41.length) (z := 2) (m := ([(api_Ent.mk i11 x29)] : List api_Ent).length) (bytes := 16) (xs' := y45) (news := ([vI i11, vI x29])) (zv := .agg #[vI 0, vI 0]) 4 ⟨by kernel_rfl⟩ rfl rfl Try.underlying40 (by kernel_rfl) (by rfl) rfl (fun w_ hM => hM.srcO 0 rfl) h39.len h39.one hb44 (by have z_ := congrArg List.length he43; rw [List.length_append] at z_; exact z_.symm) hy46 (fun _ _ _ _ hS h' => trivial) ?_
     rintro ⟨A48, c49⟩
     refine oQ [oF 12] [(3, sl A48 l41 c49), (0, vP b_r 0), (9, sl (sa g26) r_1 c_r_1), (10, vI (r_1.length : Int)), (11, vI i11)] (by kernel_rfl) ?_
     refine ops_nil (fin_block ?_)
     exact fin_join HJ3 (A48, c49, l41, y45) ⟨hp, h47⟩ (look_has ⟨rfl, rfl, rfl, rfl, rfl, trivial⟩) (fun w_ hM => hM.pick 6 [1, 2, 3, 4, 5] (by kernel_rfl) (by decide) rfl)
    ·
     have hp := cnd_f hc28 hp
     refine st_skip (fin_block ?_)
     exact fin_join HJ3 (A6, c7, l8, y9) ⟨hp, h10⟩ (look_has ⟨rfl, rfl, rfl, rfl, rfl, trivial⟩) (fun w_ hM => hM)
  ·
   have hp := cnd_f hc12 hp
   refine st_exit (fin_exit_then (fin_exit_then (fin_exit ?_)))
   obtain hq_ := Option.some.inj hp
   subst hq_
   obtain hq_ := hd2 _ rfl
   subst hq_
   have hp : tourref1_Room_List_j1 l8 = some l9003 := hk2
   exact fin_join HJ1 (A6, c7, l8, y9) ⟨hp, h10⟩ (look_has ⟨rfl, trivial⟩) (fun w_ hM => hM.pick 5 [3, 0, 1, 2, 4] (by kernel_rfl) (by decide) rfl)
theorem slices_Equal_api_Ent_api_Ent_ok (w0 w : World) (cs : List Chunk) (F : Nat → Prop) (W : World) (A_s1 : Option Addr) (c_s1 : Nat) (s1_1 : List api_Ent) (A_s2 : Option Addr) (c_s2 : Nat) (s2_1 : List api_Ent) (hM0 : Mem w0 (Fz F W :: cs) w) (h_s1 : RdS R_api_Ent F W A_s1 c_s1 s1_1) (h_s2 : RdS R_api_Ent F W A_s2 c_s2 s2_1) (t9001 : Bool) (hp : slices_Equal_api_Ent_api_Ent s1_1 s2_1 = some t9001) : Calls Try.prog 15 #[sl A_s1 s1_1 c_s1, sl A_s2 s2_1 c_s2] w fun e w' => (True) ∧ e = .returned (.bool t9001) ∧ Mem w0 (Fz F W :: cs) w' := by
 unfold slices_Equal_api_Ent_api_Ent at hp
 refine sx_calls Try.func15 rfl (n := 26) (by kernel_rfl) (l := [(0, sl A_s1 s1_1 c_s1), (1, sl A_s2 s2_1 c_s2)]) rfl (by rfl) hM0 ?_
 refine st_seq (st_region [oF 0] (by rfl) ?_)
 refine oQ [oF 0] [(0, sl A_s1 s1_1 c_s1), (1, sl A_s2 s2_1 c_s2)] (by kernel_rfl) ?_
 refine ops_nil (fin_then (st_seq (st_seq (st_region [oF 0, oF 1, oF 2, oF 3, oF 4] (by rfl) ?_))))
 refine oQ [oF 0, oF 1, oF 2, oF 3, oF 4] [(10, .bool (!((s1_1.length : Int) == (s2_1.length : Int)))), (0, sl A_s1 s1_1 c_s1), (1, sl A_s2 s2_1 c_s2)] (by kernel_rfl) ?_
 refine ops_nil (fin_then ?_)
 refine st_if (b := !((s1_1.length : Int) == (s2_1.length : Int))) rfl (fun hc1 => ?_) (fun hc1 => ?_)
 ·
  have hp := cnd_t hc1 hp
  refine st_seq (st_region [oF 0] (by rfl) ?_)
  refine oQ [oF 0] [(4, .bool false)] (by kernel_rfl) ?_
  refine ops_nil (fin_then (st_ret (fin_ret_then ?_)))
  have hq_ := Option.some.inj hp
  have hr0_ := hq_
  subst hr0_
  refine fin_ret [.tmp 4] [.bool false] rfl rfl (fun w_ hM => (.tmp rfl .nil)) (fun w_ hM => ?_)
  exact ⟨trivial, rfl, hM⟩
 ·
  have hp := cnd_f hc1 hp
  refine st_skip (fin_then ?_)
  refine st_join1 (σ := Unit) (L := fun _ => []) (N := fun _ => Mem w0 (Fz F W :: cs)) (I := fun _ => (slices_Equal_api_Ent_api_Ent_j1 = some t9001)) ?_ ?_
  ·
   rintro _ hp
   unfold slices_Equal_api_Ent_api_Ent_j1 at hp
   refine st_seq (st_region [oF 0] (by rfl) ?_)
   refine oQ [oF 0] [(4, .bool true)] (by kernel_rfl) ?_
   refine ops_nil (fin_then (st_ret ?_))
   have hq_ := Option.some.inj hp
   have hr0_ := hq_
   subst hr0_
   refine fin_ret [.tmp 4] [.bool true] rfl rfl (fun w_ hM => (.tmp rfl .nil)) (fun w_ hM => ?_)
   exact ⟨trivial, rfl, hM⟩
  ·
   intro HJ1
   refine st_seq (st_seq (st_region [oF 0, oF 1, oF 2] (by rfl) ?_))
   refine oQ [oF 0, oF 1, oF 2] [(13, vI 0), (12, vI (s1_1.length : Int)), (0, sl A_s1 s1_1 c_s1), (1, sl A_s2 s2_1 c_s2)] (by kernel_rfl) ?_
   refine ops_nil (fin_then (st_block ?_))
   obtain ⟨r2, hl2, hk2⟩ := obind hp
   refine st_loopP (σ := Int) (ρ := (Bool ⊕ Unit)) (γ := Unit) hl2 () (fun s_ g_ => match s_, g_ with | i2, _ => [(0, sl A_s1 s1_1 c_s1), (1, sl A_s2 s2_1 c_s2), (12, vI (s1_1.length : Int)), (13, vI i2)]) (fun s_ g_ => match s_, g_ with | i2, _ => Mem w0 (Fz F W :: cs)) (fun s_ g_ => match s_, g_ with | i2, _ => True) trivial (look_has ⟨rfl, rfl, rfl, rfl, trivial⟩) (fun w_ hM => hM) ?_
   rintro i2 _ o2 - hs_ hd2
   have hp : (slices_Equal_api_Ent_api_Ent_l2 s1_1 s2_1) i2 = some o2 := hs_
   clear hs_
   unfold slices_Equal_api_Ent_api_Ent_l2 at hp
   refine st_seq (st_region [oF 0] (by rfl) ?_)
   refine oQ [oF 0] [(14, .bool (decide (i2 < (s1_1.length : Int)))), (0, sl A_s1 s1_1 c_s1), (1, sl A_s2 s2_1 c_s2), (12, vI (s1_1.length : Int)), (13, vI i2)] (by kernel_rfl) ?_
   refine ops_nil (fin_then (st_seq ?_))
   refine st_if (b := decide (i2 < (s1_1.length : Int))) rfl (fun hc3 => ?_) (fun hc3 => ?_)
   ·
    have hp := cnd_t hc3 hp
    refine st_skip (fin_then (st_seq (st_block (st_seq (st_region [oF 0, oF 1] (by rfl) ?_)))))
    refine oQ [oF 0, oF 1] [(5, vI i2), (0, sl A_s1 s1_1 c_s1), (1, sl A_s2 s2_1 c_s2), (12, vI (s1_1.length : Int)), (13, vI i2)] (by kernel_rfl) ?_
    refine ops_nil (fin_then (st_seq ?_))
    refine st_region_draw [oT 0, oT 1, oT 2, oT 3, oT 4, oT 5, oT 6, oT 7, oT 8] (Mem w0 (Fz F W :: cs)) (by kernel_rfl) (by kernel_rfl) (by kernel_rfl) (fun _ d _ _ _ h => by cases d <;> exact h) (M' := Mem w0 (Fz F W :: cs)) (fun w_ hM => ⟨hM.drew, hM.drew.sub (.cons_cons _ (.refl _))⟩) ?_
    refine oQ [oT 0, oT 1] [(17, vI i2), (16, sl A_s1 s1_1 c_s1), (5, vI i2), (0, sl A_s1 s1_1 c_s1), (1, sl A_s2 s2_1 c_s2), (12, vI (s1_1.length : Int)), (13, vI i2)] (by kernel_rfl) ?_
    obtain ⟨x4, hv5, hp⟩ := obind hp
    obtain ⟨m6, hm7, hx8⟩ := idx_some hv5
    have hl11 := (List.getElem?_eq_some_iff.1 hx8).1
    obtain ⟨ad12, vs9, hA13, hr10, hq14⟩ := RdS.el h_s1 hx8
    obtain rfl := dec_api_Ent hr10
    refine ops_val (op := (.indexAddr 40 (.tmp 16) (.tmp 17))) (d := some 18) (v := .pointer (some (ad12.add (m6 * 2)))) ⟨by kernel_rfl⟩ (run_indexA hA13 Try.underlying40 (z := 2) (by kernel_rfl) rfl rfl hm7 hl11) ?_
    refine ops_load (d := some 19) (an := [.v (vI x4.N), .v (vI x4.Gen)]) (evs := [.load (ad12.add (m6 * 2)) (vI x4.N), .load ((ad12.add (m6 * 2)).add 1) (vI x4.Gen)]) (v := .agg #[vI x4.N, vI x4.Gen]) ⟨by kernel_rfl⟩ (fun w_ hM => ⟨hM.elcell 0 rfl hq14 0 rfl, hM.elcell 0 rfl hq14 1 rfl, rfl⟩) ?_
    refine oQ [oT 4, oT 5] [(21, vI i2), (20, sl A_s2 s2_1 c_s2), (19, .agg #[vI x4.N, vI x4.Gen]), (0, sl A_s1 s1_1 c_s1), (1, sl A_s2 s2_1 c_s2), (12, vI (s1_1.length : Int)), (13, vI i2)] (by kernel_rfl) ?_
    obtain ⟨x15, hv16, hp⟩ := obind hp
    obtain ⟨m17, hm18, hx19⟩ := idx_some hv16
    have hl22 := (List.getElem?_eq_some_iff.1 hx19).1
    obtain ⟨ad23, vs20, hA24, hr21, hq25⟩ := RdS.el h_s2 hx19
    obtain rfl := dec_api_Ent hr21
    refine ops_val (op := (.indexAddr 40 (.tmp 20) (.tmp 21))) (d := some 22) (v := .pointer (some (ad23.add (m17 * 2)))) ⟨by kernel_rfl⟩ (run_indexA hA24 Try.underlying40 (z := 2) (by kernel_rfl) rfl rfl hm18 hl22) ?_
    refine ops_load (d := some 23) (an := [.v (vI x15.N), .v (vI x15.Gen)]) (evs := [.load (ad23.add (m17 * 2)) (vI x15.N), .load ((ad23.add (m17 * 2)).add 1) (vI x15.Gen)]) (v := .agg #[vI x15.N, vI x15.Gen]) ⟨by kernel_rfl⟩ (fun w_ hM => ⟨hM.elcell 0 rfl hq25 0 rfl, hM.elcell 0 rfl hq25 1 rfl, rfl⟩) ?_
    refine ops_val (op := (.binOp Go.BinOp.neq 35 (.tmp 19) (.tmp 23) 35)) (d := some 24) (v := .bool (!(x4.N == x15.N && (x4.Gen == x15.Gen)))) ⟨by kernel_rfl⟩ (run_neq_agg (r := x4.N == x15.N && (x4.Gen == x15.Gen)) rfl rfl (by kernel_rfl) (fun w => eqA35 9998 w x4.N x15.N x4.Gen x15.Gen)) ?_
    refine ops_nil (fin_then ?_)
    refine st_if (b := !(x4.N == x15.N && (x4.Gen == x15.Gen))) rfl (fun hc26 => ?_) (fun hc26 => ?_)
    ·
     have hp := cnd_t hc26 hp
     refine st_seq (st_region [oF 0] (by rfl) ?_)
     refine oQ [oF 0] [(4, .bool false)] (by kernel_rfl) ?_
     refine ops_nil (fin_then (st_ret (fin_ret_block (fin_ret_then (fin_ret_then (fin_ret_block (fin_ret_then ?_)))))))
     obtain hq_ := Option.some.inj hp
     subst hq_
     obtain hq_ := hd2 _ rfl
     subst hq_
     have hp : some false = some t9001 := hk2
     have hq_ := Option.some.inj hp
     have hr0_ := hq_
     subst hr0_
     refine fin_ret [.tmp 4] [.bool false] rfl rfl (fun w_ hM => (.tmp rfl .nil)) (fun w_ hM => ?_)
     exact ⟨trivial, rfl, hM⟩
    ·
     have hp := cnd_f hc26 hp
     refine st_skip (fin_block (fin_then (st_region [oF 0, oF 1] (by rfl) ?_)))
     refine oQ [oF 0, oF 1] [(13, vI (IntKind.i64.wrap (i2 + 1))), (0, sl A_s1 s1_1 c_s1), (1, sl A_s2 s2_1 c_s2), (12, vI (s1_1.length : Int))] (by kernel_rfl) ?_
     refine ops_nil ?_
     exact fin_again (IntKind.i64.wrap (i2 + 1)) () (Option.some.inj hp).symm trivial (look_has ⟨rfl, rfl, rfl, rfl, trivial⟩) (fun w_ hM => hM)
   ·
    have hp := cnd_f hc3 hp
    refine st_exit (fin_exit_then (fin_exit_then (fin_exit ?_)))
    obtain hq_ := Option.some.inj hp
    subst hq_
    obtain hq_ := hd2 _ rfl
    subst hq_
    have hp : slices_Equal_api_Ent_api_Ent_j1 = some t9001 := hk2
    exact fin_join HJ1 () hp (look_has trivial) (fun w_ hM => hM)
theorem slots_Slots_Gens_ok (w0 w : World) (cs : List Chunk) (F : Nat → Prop) (W : World) (b_s : Nat) (A_s_0 : Option Addr) (c_s_0 : Nat) (s_0 : List Int) (y_s_0 : List Value) (A_s_1 : Option Addr) (c_s_1 : Nat) (s_1 : List Int) (y_s_1 : List Value) (A_s_2 : Option Addr) (c_s_2 : Nat) (s_2 : List Int) (y_s_2 : List Value) (hM0 : Mem w0 (.blk b_s [sl A_s_0 s_0 c_s_0, sl A_s_1 s_1 c_s_1, sl A_s_2 s_2 c_s_2] 127 :: ow A_s_0 s_0 c_s_0 3 1 y_s_0 :: ow A_s_1 s_1 c_s_1 52 1 y_s_1 :: ow A_s_2 s_2 c_s_2 52 1 y_s_2 :: Fz F W :: cs) w) (h_s_0 : RepL (Rep.int .i64) F W s_0 y_s_0) (h_s_1 : RepL (Rep.int .u64) F W s_1 y_s_1) (h_s_2 : RepL (Rep.int .u64) F W s_2 y_s_2) (l9003 : List Int) (hp : slots_Slots_Gens s_0 s_1 s_2 = some l9003) : Calls Try.prog 49 #[vP b_s 0] w fun e w' => ∃ (A9001 : Option Addr), ∃ (c9002 : Nat), ∃ (y9004 : List Value), ∃ (y9006 : List Value), ∃ (y9008 : List Value), ∃ (y9010 : List Value), ((RepL (Rep.int .i64) F W l9003 y9004) ∧ (RepL (Rep.int .i64) F W s_0 y9006) ∧ (RepL (Rep.int .u64) F W s_1 y9008) ∧ (RepL (Rep.int .u64) F W s_2 y9010)) ∧ e = .returned (sl A9001 l9003 c9002) ∧ Mem w0 (ow A9001 l9003 c9002 3 1 y9004 :: .blk b_s [sl A_s_0 s_0 c_s_0, sl A_s_1 s_1 c_s_1, sl A_s_2 s_2 c_s_2] 127 :: ow A_s_0 s_0 c_s_0 3 1 y9006 :: ow A_s_1 s_1 c_s_1 52 1 y9008 :: ow A_s_2 s_2 c_s_2 52 1 y9010 :: Fz F W :: cs) w' := by
 unfold slots_Slots_Gens at hp
 refine sx_calls Try.func49 rfl (n := 8) (by kernel_rfl) (l := [(0, vP b_s 0)]) rfl (by rfl) hM0 ?_
 refine st_seq (st_region [oF 0] (by rfl) ?_)
 refine oQ [oF 0] [(0, vP b_s 0)] (by kernel_rfl) ?_
 refine ops_nil (fin_then (st_seq (st_region [oF 0, oF 1, oF 2, oF 3, oF 4, oF 5] (by rfl) ?_)))
 refine oQ [oF 0, oF 1, oF 2] [(5, vP b_s 0)] (by kernel_rfl) ?_
 refine ops_mem (d := some 6) (an := [.v (sl A_s_0 s_0 c_s_0)]) (evs := [ld b_s 0 (sl A_s_0 s_0 c_s_0)]) (v := sl A_s_0 s_0 c_s_0) ⟨by kernel_rfl⟩ (fun w_ hM hS => ⟨w_, ⟨hM.cell 0 rfl rfl, rfl⟩, hM, trivial⟩) ?_
 refine oQ [] [(6, sl A_s_0 s_0 c_s_0)] (by kernel_rfl) ?_
 refine ops_conv (l' := [(6, sl A_s_0 s_0 c_s_0)]) (M' := Mem w0 (ow none ([] : List Int) 0 3 1 [] :: .blk b_s [sl A_s_0 s_0 c_s_0, sl A_s_1 s_1 c_s_1, sl A_s_2 s_2 c_s_2] 127 :: ow A_s_0 s_0 c_s_0 3 1 y_s_0 :: ow A_s_1 s_1 c_s_1 52 1 y_s_1 :: ow A_s_2 s_2 c_s_2 52 1 y_s_2 :: Fz F W :: cs)) rfl (fun w_ h => h.onil none 3 1) ?_
 obtain ⟨l1, hv2, hp⟩ := obind hp
 obtain ⟨he3, hb4⟩ := app_some hv2
 obtain ⟨y5, hy6⟩ : ∃ y_, [] ++ y_s_0 = y_ := ⟨_, rfl⟩
 have h7 : RepL (Rep.int .i64) F W l1 y5 := by rw [he3, ← hy6]; exact RepL.app (RepL.nil (R := (Rep.int .i64))) h_s_0
 refine ops_appendO (x := (Go.Operand.const (Go.Value.slice none 0 0))) (y := (Go.Operand.tmp 6)) (t := 23) (e := 3) (d := some 7) (n' := l1.length) (z := 1) (m := s_0.length) (bytes := 8) (xs' := y5) (news := y_s_0) (zv := vI 0) 0 ⟨by kernel_rfl⟩ rfl rfl Try.underlying23 (by kernel_rfl) (by rfl) rfl (fun w_ hM => hM.srcO 2 rfl) h_s_0.len h_s_0.one hb4 (by have z_ := congrArg List.length he3; rw [List.length_append] at z_; exact z_.symm) hy6 (fun _ _ _ _ hS h' => trivial) ?_
 rintro ⟨A8, c9⟩
 refine oQ [oF 5] [(2, sl A8 l1 c9)] (by kernel_rfl) ?_
 refine ops_nil (fin_then (st_ret ?_))
 have hq_ := Option.some.inj hp
 have hr0_ := hq_
 subst hr0_
 refine fin_ret [.tmp 2] [sl A8 l1 c9] rfl rfl (fun w_ hM => (.tmp rfl .nil)) (fun w_ hM => ?_)
 exact ⟨A8, c9, y5, y_s_0, y_s_1, y_s_2, ⟨h7, h_s_0, h_s_1, h_s_2⟩, rfl, hM⟩
theorem slices_Equal_int_int_ok (w0 w : World) (cs : List Chunk) (F : Nat → Prop) (W : World) (A_s1 : Option Addr) (c_s1 : Nat) (s1_1 : List Int) (A_s2 : Option Addr) (c_s2 : Nat) (s2_1 : List Int) (hM0 : Mem w0 (Fz F W :: cs) w) (h_s1 : RdS (Rep.int .i64) F W A_s1 c_s1 s1_1) (h_s2 : RdS (Rep.int .i64) F W A_s2 c_s2 s2_1) (t9001 : Bool) (hp : slices_Equal_int_int s1_1 s2_1 = some t9001) : Calls Try.prog 14 #[sl A_s1 s1_1 c_s1, sl A_s2 s2_1 c_s2] w fun e w' => (True) ∧ e = .returned (.bool t9001) ∧ Mem w0 (Fz F W :: cs) w' := by
 unfold slices_Equal_int_int at hp
 refine sx_calls Try.func14 rfl (n := 26) (by kernel_rfl) (l := [(0, sl A_s1 s1_1 c_s1), (1, sl A_s2 s2_1 c_s2)]) rfl (by rfl) hM0 ?_
 refine st_seq (st_region [oF 0] (by rfl) ?_)
 refine oQ [oF 0] [(0, sl A_s1 s1_1 c_s1), (1, sl A_s2 s2_1 c_s2)] (by kernel_rfl) ?_
 refine ops_nil (fin_then (st_seq (st_seq (st_region [oF 0, oF 1, oF 2, oF 3, oF 4] (by rfl) ?_))))
 refine oQ [oF 0, oF 1, oF 2, oF 3, oF 4] [(10, .bool (!((s1_1.length : Int) == (s2_1.length : Int)))), (0, sl A_s1 s1_1 c_s1), (1, sl A_s2 s2_1 c_s2)] (by kernel_rfl) ?_
 refine ops_nil (fin_then ?_)
 refine st_if (b := !((s1_1.length : Int) == (s2_1.length : Int))) rfl (fun hc1 => ?_) (fun hc1 => ?_)
 ·
  have hp := cnd_t hc1 hp
  refine st_seq (st_region [oF 0] (by rfl) ?_)
  refine oQ [oF 0] [(4, .bool false)] (by kernel_rfl) ?_
  refine ops_nil (fin_then (st_ret (fin_ret_then ?_)))
  have hq_ := Option.some.inj hp
  have hr0_ := hq_
  subst hr0_
  refine fin_ret [.tmp 4] [.bool false] rfl rfl (fun w_ hM => (.tmp rfl .nil)) (fun w_ hM => ?_)
  exact ⟨trivial, rfl, hM⟩
 ·
  have hp := cnd_f hc1 hp
  refine st_skip (fin_then ?_)
  refine st_join1 (σ := Unit) (L := fun _ => []) (N := fun _ => Mem w0 (Fz F W :: cs)) (I := fun _ => (slices_Equal_int_int_j1 = some t9001)) ?_ ?_
  ·
   rintro _ hp
   unfold slices_Equal_int_int_j1 at hp
   refine st_seq (st_region [oF 0] (by rfl) ?_)
   refine oQ [oF 0] [(4, .bool true)] (by kernel_rfl) ?_
   refine ops_nil (fin_then (st_ret ?_))
   have hq_ := Option.some.inj hp
   have hr0_ := hq_
   subst hr0_
   refine fin_ret [.tmp 4] [.bool true] rfl rfl (fun w_ hM => (.tmp rfl .nil)) (fun w_ hM => ?_)
   exact ⟨trivial, rfl, hM⟩
  ·
   intro HJ1
   refine st_seq (st_seq (st_region [oF 0, oF 1, oF 2] (by rfl) ?_))
   refine oQ [oF 0, oF 1, oF 2] [(13, vI 0), (12, vI (s1_1.length : Int)), (0, sl A_s1 s1_1 c_s1), (1, sl A_s2 s2_1 c_s2)] (by kernel_rfl) ?_
   refine ops_nil (fin_then (st_block ?_))
   obtain ⟨r2, hl2, hk2⟩ := obind hp
   refine st_loopP (σ := Int) (ρ := (Bool ⊕ Unit)) (γ := Unit) hl2 () (fun s_ g_ => match s_, g_ with | i2, _ => [(0, sl A_s1 s1_1 c_s1), (1, sl A_s2 s2_1 c_s2), (12, vI (s1_1.length : Int)), (13, vI i2)]) (fun s_ g_ => match s_, g_ with | i2, _ => Mem w0 (Fz F W :: cs)) (fun s_ g_ => match s_, g_ with | i2, _ => True) trivial (look_has ⟨rfl, rfl, rfl, rfl, trivial⟩) (fun w_ hM => hM) ?_
   rintro i2 _ o2 - hs_ hd2
   have hp : (slices_Equal_int_int_l2 s1_1 s2_1) i2 = some o2 := hs_
   clear hs_
   unfold slices_Equal_int_int_l2 at hp
   refine st_seq (st_region [oF 0] (by rfl) ?_)
   refine oQ [oF 0] [(14, .bool (decide (i2 < (s1_1.length : Int)))), (0, sl A_s1 s1_1 c_s1), (1, sl A_s2 s2_1 c_s2), (12, vI (s1_1.length : Int)), (13, vI i2)] (by kernel_rfl) ?_
   refine ops_nil (fin_then (st_seq ?_))
   refine st_if (b := decide (i2 < (s1_1.length : Int))) rfl (fun hc3 => ?_) (fun hc3 => ?_)
   ·
    have hp := cnd_t hc3 hp
    refine st_skip (fin_then (st_seq (st_block (st_seq (st_region [oF 0, oF 1] (by rfl) ?_)))))
    refine oQ [oF 0, oF 1] [(5, vI i2), (0, sl A_s1 s1_1 c_s1), (1, sl A_s2 s2_1 c_s2), (12, vI (s1_1.length : Int)), (13, vI i2)] (by kernel_rfl) ?_
    refine ops_nil (fin_then (st_seq ?_))
    refine st_region_draw [oT 0, oT 1, oT 2, oT 3, oT 4, oT 5, oT 6, oT 7, oT 8] (Mem w0 (Fz F W :: cs)) (by kernel_rfl) (by kernel_rfl) (by kernel_rfl) (fun _ d _ _ _ h => by cases d <;> exact h) (M' := Mem w0 (Fz F W :: cs)) (fun w_ hM => ⟨hM.drew, hM.drew.sub (.cons_cons _ (.refl _))⟩) ?_
    refine oQ [oT 0, oT 1] [(17, vI i2), (16, sl A_s1 s1_1 c_s1), (5, vI i2), (0, sl A_s1 s1_1 c_s1), (1, sl A_s2 s2_1 c_s2), (12, vI (s1_1.length : Int)), (13, vI i2)] (by kernel_rfl) ?_
    obtain ⟨x4, hv5, hp⟩ := obind hp
    obtain ⟨m6, hm7, hx8⟩ := idx_some hv5
    have hl11 := (List.getElem?_eq_some_iff.1 hx8).1
    obtain ⟨ad12, vs9, hA13, hr10, hq14⟩ := RdS.el h_s1 hx8
    obtain rfl := hr10
    refine ops_val (op := (.indexAddr 23 (.tmp 16) (.tmp 17))) (d := some 18) (v := .pointer (some (ad12.add (m6 * 1)))) ⟨by kernel_rfl⟩ (run_indexA hA13 Try.underlying23 (z := 1) (by kernel_rfl) rfl rfl hm7 hl11) ?_
    refine ops_load (d := some 19) (an := [.v (vI x4)]) (evs := [.load (ad12.add (m6 * 1)) (vI x4)]) (v := vI x4) ⟨by kernel_rfl⟩ (fun w_ hM => ⟨hM.elcell 0 rfl hq14 0 rfl, rfl⟩) ?_
    refine oQ [oT 4, oT 5] [(21, vI i2), (20, sl A_s2 s2_1 c_s2), (19, vI x4), (0, sl A_s1 s1_1 c_s1), (1, sl A_s2 s2_1 c_s2), (12, vI (s1_1.length : Int)), (13, vI i2)] (by kernel_rfl) ?_
    obtain ⟨x15, hv16, hp⟩ := obind hp
    obtain ⟨m17, hm18, hx19⟩ := idx_some hv16
    have hl22 := (List.getElem?_eq_some_iff.1 hx19).1
    obtain ⟨ad23, vs20, hA24, hr21, hq25⟩ := RdS.el h_s2 hx19
    obtain rfl := hr21
    refine ops_val (op := (.indexAddr 23 (.tmp 20) (.tmp 21))) (d := some 22) (v := .pointer (some (ad23.add (m17 * 1)))) ⟨by kernel_rfl⟩ (run_indexA hA24 Try.underlying23 (z := 1) (by kernel_rfl) rfl rfl hm18 hl22) ?_
    refine ops_load (d := some 23) (an := [.v (vI x15)]) (evs := [.load (ad23.add (m17 * 1)) (vI x15)]) (v := vI x15) ⟨by kernel_rfl⟩ (fun w_ hM => ⟨hM.elcell 0 rfl hq25 0 rfl, rfl⟩) ?_
    refine oQ [oT 8] [(24, .bool (!(x4 == x15))), (0, sl A_s1 s1_1 c_s1), (1, sl A_s2 s2_1 c_s2), (12, vI (s1_1.length : Int)), (13, vI i2)] (by kernel_rfl) ?_
    refine ops_nil (fin_then ?_)
    refine st_if (b := !(x4 == x15)) rfl (fun hc26 => ?_) (fun hc26 => ?_)
    ·
     have hp := cnd_t hc26 hp
     refine st_seq (st_region [oF 0] (by rfl) ?_)
     refine oQ [oF 0] [(4, .bool false)] (by kernel_rfl) ?_
     refine ops_nil (fin_then (st_ret (fin_ret_block (fin_ret_then (fin_ret_then (fin_ret_block (fin_ret_then ?_)))))))
     obtain hq_ := Option.some.inj hp
     subst hq_
     obtain hq_ := hd2 _ rfl
     subst hq_
     have hp : some false = some t9001 := hk2
     have hq_ := Option.some.inj hp
     have hr0_ := hq_
     subst hr0_
     refine fin_ret [.tmp 4] [.bool false] rfl rfl (fun w_ hM => (.tmp rfl .nil)) (fun w_ hM => ?_)
     exact ⟨trivial, rfl, hM⟩
    ·
     have hp := cnd_f hc26 hp
     refine st_skip (fin_block (fin_then (st_region [oF 0, oF 1] (by rfl) ?_)))
     refine oQ [oF 0, oF 1] [(13, vI (IntKind.i64.wrap (i2 + 1))), (0, sl A_s1 s1_1 c_s1), (1, sl A_s2 s2_1 c_s2), (12, vI (s1_1.length : Int))] (by kernel_rfl) ?_
     refine ops_nil ?_
     exact fin_again (IntKind.i64.wrap (i2 + 1)) () (Option.some.inj hp).symm trivial (look_has ⟨rfl, rfl, rfl, rfl, trivial⟩) (fun w_ hM => hM)
   ·
    have hp := cnd_f hc3 hp
    refine st_exit (fin_exit_then (fin_exit_then (fin_exit ?_)))
    obtain hq_ := Option.some.inj hp
    subst hq_
    obtain hq_ := hd2 _ rfl
    subst hq_
    have hp : slices_Equal_int_int_j1 = some t9001 := hk2
    exact fin_join HJ1 () hp (look_has trivial) (fun w_ hM => hM)
end Go.Proofs.Ythcniadbdjoecaa.R
