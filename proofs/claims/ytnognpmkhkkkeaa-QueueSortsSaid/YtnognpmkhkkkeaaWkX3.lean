/- The Go functions come to what the plain functions tell. No condition. -/
import Derived.Test.YtnognpmkhkkkeaaProg
import Derived.Test.YtnognpmkhkkkeaaFnX
import Derived.Test.YtnognpmkhkkkeaaWkX2
namespace Go.Proofs.Ytnognpmkhkkkeaa.X
open Go Go.RowKit Go.Proofs.Ytnognpmkhkkkeaa.Sx
set_option linter.unusedVariables false
def slices_symMergeCmpFunc_int__t0 : List Row := [⟨0, 365375409332725729550921208179070754913983135744, 16⟩, ⟨0, 730750818665451459101842416358141509827966271488, 1⟩, ⟨0, 1461501637330902918203684832716283019655932542976, 4194304⟩, ⟨0, 2923003274661805836407369665432566039311865085952, 8388608⟩, ⟨12, 5846006549323611672814739330865132078623730171904, 4384504911992708754611054498148849058967797628928⟩, ⟨18, 11692013098647223345629478661730264157247460343808, 6576757367989063131916581747223273588451696443392⟩, ⟨32, 23384026197294446691258957323460528314494920687616, 11692013098647223345629478661730264157247460343808⟩, ⟨0, 46768052394588893382517914646921056628989841375232, 1⟩, ⟨0, 93536104789177786765035829293842113257979682750464, 8388608⟩, ⟨384, 187072209578355573530071658587684226515959365500928, 140304157183766680147553743940763169886969524125696⟩, ⟨512, 374144419156711147060143317175368453031918731001856, 187072209578355573530071658587684226515959365500928⟩, ⟨1089, 748288838313422294120286634350736906063837462003712, 397893820763338319480953195707008052101327634825216⟩, ⟨2048, 1496577676626844588240573268701473812127674924007424, 748288838313422294120286634350736906063837462003712⟩, ⟨4096, 2993155353253689176481146537402947624255349848014848, 1496577676626844588240573268701473812127674924007424⟩]
set_option maxHeartbeats 4000000 in
set_option maxRecDepth 100000 in
theorem slices_symMergeCmpFunc_int_okK : ∀ (k_ : Nat) (w0 w : World) (cs : List Chunk) (F : Nat → Prop) (W : World) (A_data : Option Addr) (c_data : Nat) (data : List Int) (y_data : List Value) (a : Int) (m : Int) (b : Int) (b_cmp_c0 : Nat) (A_cmp_c0_0 : Option Addr) (c_cmp_c0_0 : Nat) (cmp_c0_0 : List Int) (hM0 : Mem w0 (orow A_data data.length c_data 3 1 y_data :: .blk b_cmp_c0 [.slice A_cmp_c0_0 cmp_c0_0.length c_cmp_c0_0] 32 :: Fz F W :: cs) w) (h_data : RepL (Rep.int .i64) F W data y_data) (h_cmp_c0_0 : RdS (Rep.int .i64) F W A_cmp_c0_0 c_cmp_c0_0 cmp_c0_0) (l8001 : List Int) (hp : fixK slices_symMergeCmpFunc_int_s k_ (data, a, m, b, cmp_c0_0) = some l8001), Calls Try.prog 79 #[.slice A_data data.length c_data, vI a, vI m, vI b, .func (.func 52) #[] #[vP b_cmp_c0 0]] w fun e w' => ∃ (y8002 : List Value), ((RepL (Rep.int .i64) F W l8001 y8002) ∧ (l8001.length = data.length)) ∧ e = .returned (.tuple #[]) ∧ Mem w0 (orow A_data l8001.length c_data 3 1 y8002 :: .blk b_cmp_c0 [.slice A_cmp_c0_0 cmp_c0_0.length c_cmp_c0_0] 32 :: Fz F W :: cs) w' := by
 intro k_
 induction k_ with
 | zero => intro w0 w cs F W A_data c_data data y_data a m b b_cmp_c0 A_cmp_c0_0 c_cmp_c0_0 cmp_c0_0 hM0 h_data h_cmp_c0_0 l8001 hp; exact nomatch (show (none : Option ((List Int))) = some l8001 from hp)
 | succ k_ ih_ =>
  intro w0 w cs F W A_data c_data data y_data a m b b_cmp_c0 A_cmp_c0_0 c_cmp_c0_0 cmp_c0_0 hM0 h_data h_cmp_c0_0 l8001 hp
  obtain ⟨self_, hself_⟩ : ∃ f_ : (List Int) → Int → Int → Int → (List Int) → Option ((List Int)), f_ = fun data a m b cmp_c0_0 => fixK slices_symMergeCmpFunc_int_s k_ (data, a, m, b, cmp_c0_0) := ⟨_, rfl⟩
  have hp : slices_symMergeCmpFunc_int_b self_ data a m b cmp_c0_0 = some l8001 := by rw [hself_]; exact hp
  unfold slices_symMergeCmpFunc_int_b at hp
  refine sx_calls Try.func79 rfl (n := 220) (by kernel_rfl) (l := [(0, .slice A_data data.length c_data), (1, vI a), (2, vI m), (3, vI b), (4, .func (.func 52) #[] #[vP b_cmp_c0 0])]) rfl (by rfl) hM0 ?_
  refine st_seq ?_
  refine st_seq ?_
  refine st_region [oF 0, oF 1, oF 2, oF 3] (by rfl) ?_
  refine oR [oF 0, oF 1, oF 2, oF 3] [(28, .bool (IntKind.i64.wrap (m - a) == 1)), (0, .slice A_data data.length c_data), (1, vI a), (2, vI m), (3, vI b), (4, .func (.func 52) #[] #[vP b_cmp_c0 0])] [28, 0, 1, 2, 3, 4] (by kernel_rfl) ?_
  refine ops_nil ?_
  refine fin_then ?_
  refine st_if (b := (IntKind.i64.wrap (m - a) == 1)) rfl (fun hc1 => ?_) (fun hc1 => ?_)
  · --
   have hp := cnd_t hc1 hp
   refine st_seq ?_
   refine st_region [oF 0, oF 1] (by rfl) ?_
   refine oR [oF 0, oF 1] [(10, vI m), (0, .slice A_data data.length c_data), (1, vI a), (3, vI b), (4, .func (.func 52) #[] #[vP b_cmp_c0 0])] [10, 0, 1, 3, 4] (by kernel_rfl) ?_
   refine ops_nil ?_
   refine fin_then ?_
   refine st_seq ?_
   refine st_region [oF 0, oF 1] (by rfl) ?_
   refine oR [oF 0, oF 1] [(11, vI b), (10, vI m), (0, .slice A_data data.length c_data), (1, vI a), (4, .func (.func 52) #[] #[vP b_cmp_c0 0])] [11, 10, 0, 1, 4] (by kernel_rfl) ?_
   refine ops_nil ?_
   refine fin_then ?_
   refine st_join1 (σ := Int) (L := fun x_ => match x_ with | i2 => [(0, .slice A_data data.length c_data), (1, vI a), (10, vI i2)]) (N := fun x_ => match x_ with | i2 => Mem w0 (orow A_data data.length c_data 3 1 y_data :: .blk b_cmp_c0 [.slice A_cmp_c0_0 cmp_c0_0.length c_cmp_c0_0] 32 :: Fz F W :: cs)) (I := fun x_ => match x_ with | i2 => ((slices_symMergeCmpFunc_int_j1 data a) i2 = some l8001) ∧ (RdS (Rep.int .i64) F W A_cmp_c0_0 c_cmp_c0_0 cmp_c0_0)) ?_ ?_
   · --
    rintro i2 ⟨hp, h3⟩
    refine st_conv (l' := [(0, .slice A_data data.length c_data), (1, vI a), (10, vI i2)]) (M' := Mem w0 (orow A_data data.length c_data 3 1 y_data :: .blk b_cmp_c0 [.slice A_cmp_c0_0 cmp_c0_0.length c_cmp_c0_0] 32 :: Fz F W :: cs)) rfl (fun _ h => h) ?_
    unfold slices_symMergeCmpFunc_int_j1 at hp
    refine st_join1 (σ := (List Int) × (List Value)) (L := fun x_ => match x_ with | (l4, y5) => []) (N := fun x_ => match x_ with | (l4, y5) => Mem w0 (orow A_data l4.length c_data 3 1 y5 :: .blk b_cmp_c0 [.slice A_cmp_c0_0 cmp_c0_0.length c_cmp_c0_0] 32 :: Fz F W :: cs)) (I := fun x_ => match x_ with | (l4, y5) => (slices_symMergeCmpFunc_int_j2 l4 = some l8001) ∧ (RepL (Rep.int .i64) F W l4 y5) ∧ (l4.length = data.length)) ?_ ?_
    · --
     rintro ⟨l4, y5⟩ ⟨hp, h6, hl7⟩
     refine st_conv (l' := []) (M' := Mem w0 (orow A_data l4.length c_data 3 1 y5 :: .blk b_cmp_c0 [.slice A_cmp_c0_0 cmp_c0_0.length c_cmp_c0_0] 32 :: Fz F W :: cs)) rfl (fun _ h => h) ?_
     unfold slices_symMergeCmpFunc_int_j2 at hp
     refine st_ret ?_
     refine fin_ret_then ?_
     have hq_ := Option.some.inj hp
     have hr0_ := hq_
     subst hr0_
     refine fin_ret [] [] rfl rfl (fun w_ hM => .nil) (fun w_ hM => ?_)
     exact ⟨y5, ⟨h6, hl7⟩, rfl, hM⟩
    · --
     intro HJ2
     refine st_seq ?_
     refine st_seq ?_
     refine st_region [oF 0, oF 1] (by rfl) ?_
     refine oR [oF 0, oF 1] [(13, vI a), (0, .slice A_data data.length c_data), (10, vI i2)] [13, 0, 10] (by kernel_rfl) ?_
     refine ops_nil ?_
     refine fin_then ?_
     refine st_block ?_
     obtain ⟨r3, hl3, hk3⟩ := obind hp
     refine st_loopP (σ := (List Int) × Int) (ρ := (List Int)) (γ := (List Value)) hl3 y_data (fun s_ g_ => match s_, g_ with | (l8, i12), y9 => [(0, .slice A_data l8.length c_data), (10, vI i2), (13, vI i12)]) (fun s_ g_ => match s_, g_ with | (l8, i12), y9 => Mem w0 (orow A_data l8.length c_data 3 1 y9 :: .blk b_cmp_c0 [.slice A_cmp_c0_0 cmp_c0_0.length c_cmp_c0_0] 32 :: Fz F W :: cs)) (fun s_ g_ => match s_, g_ with | (l8, i12), y9 => (RepL (Rep.int .i64) F W l8 y9) ∧ (l8.length = data.length)) ⟨h_data, rfl⟩ (look_has ⟨rfl, rfl, rfl, trivial⟩) (fun w_ hM => hM) ?_
     rintro ⟨l8, i12⟩ y9 o3 ⟨h10, hl11⟩ hs_ hd3
     have hp : (slices_symMergeCmpFunc_int_l3 i2) l8 i12 = some o3 := hs_
     clear hs_
     unfold slices_symMergeCmpFunc_int_l3 at hp
     refine st_conv (l' := [(0, .slice A_data l8.length c_data), (10, vI i2), (13, vI i12)]) (M' := Mem w0 (orow A_data l8.length c_data 3 1 y9 :: .blk b_cmp_c0 [.slice A_cmp_c0_0 cmp_c0_0.length c_cmp_c0_0] 32 :: Fz F W :: cs)) rfl (fun _ h => h) ?_
     refine st_seq ?_
     refine st_seq ?_
     refine st_region [oF 0, oF 1, oF 2, oF 3] (by rfl) ?_
     refine oR [oF 0, oF 1, oF 2, oF 3] [(58, .bool (decide (i12 < IntKind.i64.wrap (i2 - 1)))), (0, .slice A_data l8.length c_data), (10, vI i2), (13, vI i12)] [58, 0, 10, 13] (by kernel_rfl) ?_
     refine ops_nil ?_
     refine fin_then ?_
     refine st_if (b := decide (i12 < IntKind.i64.wrap (i2 - 1))) rfl (fun hc13 => ?_) (fun hc13 => ?_)
     · --
      have hp := cnd_t hc13 hp
      refine st_skip ?_
      refine fin_then ?_
      refine st_join1 (σ := (List Int) × (List Value)) (L := fun x_ => match x_ with | (l14, y15) => [(0, .slice A_data l14.length c_data), (10, vI i2), (13, vI i12)]) (N := fun x_ => match x_ with | (l14, y15) => Mem w0 (orow A_data l14.length c_data 3 1 y15 :: .blk b_cmp_c0 [.slice A_cmp_c0_0 cmp_c0_0.length c_cmp_c0_0] 32 :: Fz F W :: cs)) (I := fun x_ => match x_ with | (l14, y15) => ((slices_symMergeCmpFunc_int_j4 i12) l14 = some o3) ∧ (RepL (Rep.int .i64) F W l14 y15) ∧ (l14.length = data.length)) ?_ ?_
      · --
       rintro ⟨l14, y15⟩ ⟨hp, h16, hl17⟩
       refine st_conv (l' := [(0, .slice A_data l14.length c_data), (10, vI i2), (13, vI i12)]) (M' := Mem w0 (orow A_data l14.length c_data 3 1 y15 :: .blk b_cmp_c0 [.slice A_cmp_c0_0 cmp_c0_0.length c_cmp_c0_0] 32 :: Fz F W :: cs)) rfl (fun _ h => h) ?_
       unfold slices_symMergeCmpFunc_int_j4 at hp
       refine st_region [oF 0, oF 1, oF 2] (by rfl) ?_
       refine oR [oF 0, oF 1, oF 2] [(13, vI (IntKind.i64.wrap (i12 + 1))), (0, .slice A_data l14.length c_data), (10, vI i2)] [13, 0, 10] (by kernel_rfl) ?_
       refine ops_nil ?_
       exact fin_again (l14, IntKind.i64.wrap (i12 + 1)) y15 (Option.some.inj hp).symm ⟨h16, hl17⟩ (look_has ⟨rfl, rfl, rfl, trivial⟩) (fun w_ hM => hM)
      · --
       intro HJ4
       refine st_seq ?_
       refine st_block ?_
       obtain ⟨x18, hv19, hp⟩ := obind hp
       obtain ⟨x28, hv29, hp⟩ := obind hp
       obtain ⟨x37, hv38, hp⟩ := obind hp
       obtain ⟨l46, hv47, hp⟩ := obind hp
       obtain ⟨x57, hv58, hp⟩ := obind hp
       obtain ⟨l66, hv67, hp⟩ := obind hp
       refine st_region_tree (.node [oT 0, oT 1, oT 2, oT 3, oT 4, oT 5, oT 6, oT 7, oT 8, oT 10, oT 11, oT 12] (.leaf [oF 9, oF 13, oT 14, oF 15, oT 16, oF 17]) (.leaf [oF 13, oF 9, oT 14, oF 15, oT 16, oF 17])) (Mem w0 (.blk b_cmp_c0 [.slice A_cmp_c0_0 cmp_c0_0.length c_cmp_c0_0] 32 :: Fz F W :: cs)) (by kernel_rfl) (by kernel_rfl) (by kernel_rfl) (fun _ d _ _ _ h => by cases d <;> exact h) (M' := Mem w0 (orow A_data l8.length c_data 3 1 y9 :: .blk b_cmp_c0 [.slice A_cmp_c0_0 cmp_c0_0.length c_cmp_c0_0] 32 :: Fz F W :: cs)) (fun w_ hM => ⟨hM.drew, hM.drew.sub (.cons _ (.cons_cons _ (.cons_cons _ (.refl _))))⟩) ?_
       refine tree_node ?_
       refine oR [oT 0, oT 1, oT 2, oT 3, oT 4, oT 5, oT 6, oT 7] [(68, vI (IntKind.i64.wrap (i12 + 1))), (66, .slice A_data l8.length c_data), (65, vI (IntKind.i64.wrap (i12 + 1))), (63, .slice A_data l8.length c_data), (62, vI i12), (61, .slice A_data l8.length c_data), (0, .slice A_data l8.length c_data), (10, vI i2), (13, vI i12)] [68, 66, 65, 63, 62, 61, 0, 10, 13] (by kernel_rfl) ?_
       obtain ⟨m68, hm69, hx70⟩ := idx_some hv19
       have hl73 := (List.getElem?_eq_some_iff.1 hx70).1
       refine ops_fact (fun w_ hM => hM.orowSome 0 rfl (Nat.lt_of_le_of_lt (Nat.zero_le _) hl73)) ?_
       rintro ⟨g74, rfl, -⟩
       obtain ⟨vs71, hr72, hq75⟩ := h10.at_ m68 x18 hx70
       obtain rfl := hr72
       refine ops_val (op := (Go.Op.indexAddr 32 (Go.Operand.tmp 66) (Go.Operand.tmp 68))) (d := some 69) (v := vP g74 (m68 * 1)) ⟨by kernel_rfl⟩ (run_indexRow Try.underlying32 (z := 1) (by kernel_rfl) rfl rfl hm69 hl73 rfl) ?_
       refine oR [oT 10, oT 11] [(72, vI i12), (71, .slice (some ⟨g74, 0, none⟩) l8.length c_data), (69, vP g74 (m68 * 1)), (65, vI (IntKind.i64.wrap (i12 + 1))), (63, .slice (some ⟨g74, 0, none⟩) l8.length c_data), (62, vI i12), (61, .slice (some ⟨g74, 0, none⟩) l8.length c_data), (0, .slice (some ⟨g74, 0, none⟩) l8.length c_data), (10, vI i2), (13, vI i12)] [72, 71, 69, 65, 63, 62, 61, 0, 10, 13] (by kernel_rfl) ?_
       obtain ⟨m76, hm77, hx78⟩ := idx_some hv29
       have hl81 := (List.getElem?_eq_some_iff.1 hx78).1
       obtain ⟨vs79, hr80, hq82⟩ := h10.at_ m76 x28 hx78
       obtain rfl := hr80
       refine ops_val (op := (Go.Op.indexAddr 32 (Go.Operand.tmp 71) (Go.Operand.tmp 72))) (d := some 73) (v := vP g74 (m76 * 1)) ⟨by kernel_rfl⟩ (run_indexRow Try.underlying32 (z := 1) (by kernel_rfl) rfl rfl hm77 hl81 rfl) ?_
       refine oR [] [(73, vP g74 (m76 * 1)), (69, vP g74 (m68 * 1)), (65, vI (IntKind.i64.wrap (i12 + 1))), (63, .slice (some ⟨g74, 0, none⟩) l8.length c_data), (62, vI i12), (61, .slice (some ⟨g74, 0, none⟩) l8.length c_data), (0, .slice (some ⟨g74, 0, none⟩) l8.length c_data), (10, vI i2), (13, vI i12)] [73, 69, 65, 63, 62, 61, 0, 10, 13] (by kernel_rfl) ?_
       refine ops_nil ?_
       refine tree_both ?_ ?_
       · --
        refine tree_leaf ?_
        refine ops_mem (d := some 70) (an := [.v (vI x18)]) (evs := [.load ⟨g74, m68 * 1, none⟩ (vI x18)]) (v := vI x18) (M' := Mem w0 (orow (some ⟨g74, 0, none⟩) l8.length c_data 3 1 y9 :: .blk b_cmp_c0 [.slice A_cmp_c0_0 cmp_c0_0.length c_cmp_c0_0] 32 :: Fz F W :: cs)) ⟨by kernel_rfl⟩ (fun w_ hM hS => ⟨w_, ⟨hM.ocell 0 rfl (hq75 0 _ rfl), rfl⟩, hM, hS⟩) ?_
        refine oR [] [(70, vI x18), (73, vP g74 (m76 * 1)), (65, vI (IntKind.i64.wrap (i12 + 1))), (63, .slice (some ⟨g74, 0, none⟩) l8.length c_data), (62, vI i12), (61, .slice (some ⟨g74, 0, none⟩) l8.length c_data), (0, .slice (some ⟨g74, 0, none⟩) l8.length c_data), (10, vI i2), (13, vI i12)] [70, 73, 65, 63, 62, 61, 0, 10, 13] (by kernel_rfl) ?_
        refine ops_mem (d := some 74) (an := [.v (vI x28)]) (evs := [.load ⟨g74, m76 * 1, none⟩ (vI x28)]) (v := vI x28) (M' := Mem w0 (orow (some ⟨g74, 0, none⟩) l8.length c_data 3 1 y9 :: .blk b_cmp_c0 [.slice A_cmp_c0_0 cmp_c0_0.length c_cmp_c0_0] 32 :: Fz F W :: cs)) ⟨by kernel_rfl⟩ (fun w_ hM hS => ⟨w_, ⟨hM.ocell 0 rfl (hq82 0 _ rfl), rfl⟩, hM, hS⟩) ?_
        refine oR [] [(74, vI x28), (70, vI x18), (65, vI (IntKind.i64.wrap (i12 + 1))), (63, .slice (some ⟨g74, 0, none⟩) l8.length c_data), (62, vI i12), (61, .slice (some ⟨g74, 0, none⟩) l8.length c_data), (0, .slice (some ⟨g74, 0, none⟩) l8.length c_data), (10, vI i2), (13, vI i12)] [74, 70, 65, 63, 62, 61, 0, 10, 13] (by kernel_rfl) ?_
        obtain ⟨m83, hm84, hx85⟩ := idx_some hv38
        have hl88 := (List.getElem?_eq_some_iff.1 hx85).1
        obtain ⟨vs86, hr87, hq89⟩ := h10.at_ m83 x37 hx85
        obtain rfl := hr87
        refine ops_val (op := (Go.Op.indexAddr 32 (Go.Operand.tmp 61) (Go.Operand.tmp 62))) (d := some 75) (v := vP g74 (m83 * 1)) ⟨by kernel_rfl⟩ (run_indexRow Try.underlying32 (z := 1) (by kernel_rfl) rfl rfl hm84 hl88 rfl) ?_
        refine oR [] [(75, vP g74 (m83 * 1)), (74, vI x28), (70, vI x18), (65, vI (IntKind.i64.wrap (i12 + 1))), (63, .slice (some ⟨g74, 0, none⟩) l8.length c_data), (0, .slice (some ⟨g74, 0, none⟩) l8.length c_data), (10, vI i2), (13, vI i12)] [75, 74, 70, 65, 63, 0, 10, 13] (by kernel_rfl) ?_
        obtain ⟨m90, hm91, hl92, he93⟩ := upd_some hv47
        obtain rfl : m83 = m90 := by have := hm84; omega
        have hl94 : l8.length = l46.length := by rw [he93, List.length_set]
        obtain ⟨y95, hy96⟩ : ∃ y_, setAll y9 (m83 * 1 + 0) [vI x18] = y_ := ⟨_, rfl⟩
        have h97 : RepL (Rep.int .i64) F W l46 y95 := by rw [he93, ← hy96]; exact RepL.set h10 (List.getElem?_eq_getElem hl92) (fun vs_ hr_ _ => by obtain rfl := hr_; exact ⟨rfl, Nat.le_of_ble_eq_true rfl⟩)
        refine ops_store (an := []) (evs := [.store ⟨g74, m83 * 1, none⟩ (vI x18)]) (M' := Mem w0 (orow (some ⟨g74, 0, none⟩) l46.length c_data 3 1 y95 :: .blk b_cmp_c0 [.slice A_cmp_c0_0 cmp_c0_0.length c_cmp_c0_0] 32 :: Fz F W :: cs)) ⟨by kernel_rfl⟩ (fun w_ hM hS => let ⟨w', he, h'⟩ := hM.ostore' 0 rfl (m83 * 1 + 0) [vI x18] (by have z_ : y9.length = l8.length * 1 := h10.len; have y_ : (m83 + 1) * 1 ≤ l8.length * 1 := Nat.mul_le_mul_right _ hl92; rw [Nat.add_mul] at y_; simp only [List.length_cons, List.length_nil]; omega) hl94 hy96; ⟨w', he, h', (by exact h'.sub (.cons _ (.cons_cons _ (.cons_cons _ (.refl _)))))⟩) ?_
        refine ops_conv (l' := [(75, vP g74 (m83 * 1)), (74, vI x28), (70, vI x18), (65, vI (IntKind.i64.wrap (i12 + 1))), (63, .slice (some ⟨g74, 0, none⟩) l46.length c_data), (0, .slice (some ⟨g74, 0, none⟩) l46.length c_data), (10, vI i2), (13, vI i12)]) (M' := Mem w0 (orow (some ⟨g74, 0, none⟩) l46.length c_data 3 1 y95 :: .blk b_cmp_c0 [.slice A_cmp_c0_0 cmp_c0_0.length c_cmp_c0_0] 32 :: Fz F W :: cs)) (by first | rfl | rw [hl94]) (fun w_ hM => by first | exact hM | (rw [hl94] at hM; exact hM)) ?_
        refine oR [] [(74, vI x28), (65, vI (IntKind.i64.wrap (i12 + 1))), (63, .slice (some ⟨g74, 0, none⟩) l46.length c_data), (0, .slice (some ⟨g74, 0, none⟩) l46.length c_data), (10, vI i2), (13, vI i12)] [74, 65, 63, 0, 10, 13] (by kernel_rfl) ?_
        obtain ⟨m99, hm100, hx101⟩ := idx_some hv58
        have hl104 := (List.getElem?_eq_some_iff.1 hx101).1
        obtain ⟨vs102, hr103, hq105⟩ := h97.at_ m99 x57 hx101
        obtain rfl := hr103
        refine ops_val (op := (Go.Op.indexAddr 32 (Go.Operand.tmp 63) (Go.Operand.tmp 65))) (d := some 76) (v := vP g74 (m99 * 1)) ⟨by kernel_rfl⟩ (run_indexRow Try.underlying32 (z := 1) (by kernel_rfl) rfl rfl hm100 hl104 rfl) ?_
        refine oR [] [(76, vP g74 (m99 * 1)), (74, vI x28), (0, .slice (some ⟨g74, 0, none⟩) l46.length c_data), (10, vI i2), (13, vI i12)] [76, 74, 0, 10, 13] (by kernel_rfl) ?_
        obtain ⟨m106, hm107, hl108, he109⟩ := upd_some hv67
        obtain rfl : m99 = m106 := by have := hm100; omega
        have hl110 : l46.length = l66.length := by rw [he109, List.length_set]
        obtain ⟨y111, hy112⟩ : ∃ y_, setAll y95 (m99 * 1 + 0) [vI x28] = y_ := ⟨_, rfl⟩
        have h113 : RepL (Rep.int .i64) F W l66 y111 := by rw [he109, ← hy112]; exact RepL.set h97 (List.getElem?_eq_getElem hl108) (fun vs_ hr_ _ => by obtain rfl := hr_; exact ⟨rfl, Nat.le_of_ble_eq_true rfl⟩)
        refine ops_store (an := []) (evs := [.store ⟨g74, m99 * 1, none⟩ (vI x28)]) (M' := Mem w0 (orow (some ⟨g74, 0, none⟩) l66.length c_data 3 1 y111 :: .blk b_cmp_c0 [.slice A_cmp_c0_0 cmp_c0_0.length c_cmp_c0_0] 32 :: Fz F W :: cs)) ⟨by kernel_rfl⟩ (fun w_ hM hS => let ⟨w', he, h'⟩ := hM.ostore' 0 rfl (m99 * 1 + 0) [vI x28] (by have z_ : y95.length = l46.length * 1 := h97.len; have y_ : (m99 + 1) * 1 ≤ l46.length * 1 := Nat.mul_le_mul_right _ hl108; rw [Nat.add_mul] at y_; simp only [List.length_cons, List.length_nil]; omega) hl110 hy112; ⟨w', he, h', (by exact h'.sub (.cons _ (.cons_cons _ (.cons_cons _ (.refl _)))))⟩) ?_
        refine ops_conv (l' := [(76, vP g74 (m99 * 1)), (74, vI x28), (0, .slice (some ⟨g74, 0, none⟩) l66.length c_data), (10, vI i2), (13, vI i12)]) (M' := Mem w0 (orow (some ⟨g74, 0, none⟩) l66.length c_data 3 1 y111 :: .blk b_cmp_c0 [.slice A_cmp_c0_0 cmp_c0_0.length c_cmp_c0_0] 32 :: Fz F W :: cs)) (by first | rfl | rw [hl110]) (fun w_ hM => by first | exact hM | (rw [hl110] at hM; exact hM)) ?_
        refine oR [] [(0, .slice (some ⟨g74, 0, none⟩) l66.length c_data), (10, vI i2), (13, vI i12)] [0, 10, 13] (by kernel_rfl) ?_
        refine ops_nil ?_
        refine fin_block ?_
        exact fin_join HJ4 (l66, y111) ⟨hp, h113, (hl110.symm.trans (hl94.symm.trans hl11))⟩ (look_has ⟨rfl, rfl, rfl, trivial⟩) (fun w_ hM => hM)
       · --
        refine tree_leaf ?_
        refine ops_mem (d := some 74) (an := [.v (vI x28)]) (evs := [.load ⟨g74, m76 * 1, none⟩ (vI x28)]) (v := vI x28) (M' := Mem w0 (orow (some ⟨g74, 0, none⟩) l8.length c_data 3 1 y9 :: .blk b_cmp_c0 [.slice A_cmp_c0_0 cmp_c0_0.length c_cmp_c0_0] 32 :: Fz F W :: cs)) ⟨by kernel_rfl⟩ (fun w_ hM hS => ⟨w_, ⟨hM.ocell 0 rfl (hq82 0 _ rfl), rfl⟩, hM, hS⟩) ?_
        refine oR [] [(74, vI x28), (69, vP g74 (m68 * 1)), (65, vI (IntKind.i64.wrap (i12 + 1))), (63, .slice (some ⟨g74, 0, none⟩) l8.length c_data), (62, vI i12), (61, .slice (some ⟨g74, 0, none⟩) l8.length c_data), (0, .slice (some ⟨g74, 0, none⟩) l8.length c_data), (10, vI i2), (13, vI i12)] [74, 69, 65, 63, 62, 61, 0, 10, 13] (by kernel_rfl) ?_
        refine ops_mem (d := some 70) (an := [.v (vI x18)]) (evs := [.load ⟨g74, m68 * 1, none⟩ (vI x18)]) (v := vI x18) (M' := Mem w0 (orow (some ⟨g74, 0, none⟩) l8.length c_data 3 1 y9 :: .blk b_cmp_c0 [.slice A_cmp_c0_0 cmp_c0_0.length c_cmp_c0_0] 32 :: Fz F W :: cs)) ⟨by kernel_rfl⟩ (fun w_ hM hS => ⟨w_, ⟨hM.ocell 0 rfl (hq75 0 _ rfl), rfl⟩, hM, hS⟩) ?_
        refine oR [] [(70, vI x18), (74, vI x28), (65, vI (IntKind.i64.wrap (i12 + 1))), (63, .slice (some ⟨g74, 0, none⟩) l8.length c_data), (62, vI i12), (61, .slice (some ⟨g74, 0, none⟩) l8.length c_data), (0, .slice (some ⟨g74, 0, none⟩) l8.length c_data), (10, vI i2), (13, vI i12)] [70, 74, 65, 63, 62, 61, 0, 10, 13] (by kernel_rfl) ?_
        obtain ⟨m115, hm116, hx117⟩ := idx_some hv38
        have hl120 := (List.getElem?_eq_some_iff.1 hx117).1
        obtain ⟨vs118, hr119, hq121⟩ := h10.at_ m115 x37 hx117
        obtain rfl := hr119
        refine ops_val (op := (Go.Op.indexAddr 32 (Go.Operand.tmp 61) (Go.Operand.tmp 62))) (d := some 75) (v := vP g74 (m115 * 1)) ⟨by kernel_rfl⟩ (run_indexRow Try.underlying32 (z := 1) (by kernel_rfl) rfl rfl hm116 hl120 rfl) ?_
        refine oR [] [(75, vP g74 (m115 * 1)), (70, vI x18), (74, vI x28), (65, vI (IntKind.i64.wrap (i12 + 1))), (63, .slice (some ⟨g74, 0, none⟩) l8.length c_data), (0, .slice (some ⟨g74, 0, none⟩) l8.length c_data), (10, vI i2), (13, vI i12)] [75, 70, 74, 65, 63, 0, 10, 13] (by kernel_rfl) ?_
        obtain ⟨m122, hm123, hl124, he125⟩ := upd_some hv47
        obtain rfl : m115 = m122 := by have := hm116; omega
        have hl126 : l8.length = l46.length := by rw [he125, List.length_set]
        obtain ⟨y127, hy128⟩ : ∃ y_, setAll y9 (m115 * 1 + 0) [vI x18] = y_ := ⟨_, rfl⟩
        have h129 : RepL (Rep.int .i64) F W l46 y127 := by rw [he125, ← hy128]; exact RepL.set h10 (List.getElem?_eq_getElem hl124) (fun vs_ hr_ _ => by obtain rfl := hr_; exact ⟨rfl, Nat.le_of_ble_eq_true rfl⟩)
        refine ops_store (an := []) (evs := [.store ⟨g74, m115 * 1, none⟩ (vI x18)]) (M' := Mem w0 (orow (some ⟨g74, 0, none⟩) l46.length c_data 3 1 y127 :: .blk b_cmp_c0 [.slice A_cmp_c0_0 cmp_c0_0.length c_cmp_c0_0] 32 :: Fz F W :: cs)) ⟨by kernel_rfl⟩ (fun w_ hM hS => let ⟨w', he, h'⟩ := hM.ostore' 0 rfl (m115 * 1 + 0) [vI x18] (by have z_ : y9.length = l8.length * 1 := h10.len; have y_ : (m115 + 1) * 1 ≤ l8.length * 1 := Nat.mul_le_mul_right _ hl124; rw [Nat.add_mul] at y_; simp only [List.length_cons, List.length_nil]; omega) hl126 hy128; ⟨w', he, h', (by exact h'.sub (.cons _ (.cons_cons _ (.cons_cons _ (.refl _)))))⟩) ?_
        refine ops_conv (l' := [(75, vP g74 (m115 * 1)), (70, vI x18), (74, vI x28), (65, vI (IntKind.i64.wrap (i12 + 1))), (63, .slice (some ⟨g74, 0, none⟩) l46.length c_data), (0, .slice (some ⟨g74, 0, none⟩) l46.length c_data), (10, vI i2), (13, vI i12)]) (M' := Mem w0 (orow (some ⟨g74, 0, none⟩) l46.length c_data 3 1 y127 :: .blk b_cmp_c0 [.slice A_cmp_c0_0 cmp_c0_0.length c_cmp_c0_0] 32 :: Fz F W :: cs)) (by first | rfl | rw [hl126]) (fun w_ hM => by first | exact hM | (rw [hl126] at hM; exact hM)) ?_
        refine oR [] [(74, vI x28), (65, vI (IntKind.i64.wrap (i12 + 1))), (63, .slice (some ⟨g74, 0, none⟩) l46.length c_data), (0, .slice (some ⟨g74, 0, none⟩) l46.length c_data), (10, vI i2), (13, vI i12)] [74, 65, 63, 0, 10, 13] (by kernel_rfl) ?_
        obtain ⟨m131, hm132, hx133⟩ := idx_some hv58
        have hl136 := (List.getElem?_eq_some_iff.1 hx133).1
        obtain ⟨vs134, hr135, hq137⟩ := h129.at_ m131 x57 hx133
        obtain rfl := hr135
        refine ops_val (op := (Go.Op.indexAddr 32 (Go.Operand.tmp 63) (Go.Operand.tmp 65))) (d := some 76) (v := vP g74 (m131 * 1)) ⟨by kernel_rfl⟩ (run_indexRow Try.underlying32 (z := 1) (by kernel_rfl) rfl rfl hm132 hl136 rfl) ?_
        refine oR [] [(76, vP g74 (m131 * 1)), (74, vI x28), (0, .slice (some ⟨g74, 0, none⟩) l46.length c_data), (10, vI i2), (13, vI i12)] [76, 74, 0, 10, 13] (by kernel_rfl) ?_
        obtain ⟨m138, hm139, hl140, he141⟩ := upd_some hv67
        obtain rfl : m131 = m138 := by have := hm132; omega
        have hl142 : l46.length = l66.length := by rw [he141, List.length_set]
        obtain ⟨y143, hy144⟩ : ∃ y_, setAll y127 (m131 * 1 + 0) [vI x28] = y_ := ⟨_, rfl⟩
        have h145 : RepL (Rep.int .i64) F W l66 y143 := by rw [he141, ← hy144]; exact RepL.set h129 (List.getElem?_eq_getElem hl140) (fun vs_ hr_ _ => by obtain rfl := hr_; exact ⟨rfl, Nat.le_of_ble_eq_true rfl⟩)
        refine ops_store (an := []) (evs := [.store ⟨g74, m131 * 1, none⟩ (vI x28)]) (M' := Mem w0 (orow (some ⟨g74, 0, none⟩) l66.length c_data 3 1 y143 :: .blk b_cmp_c0 [.slice A_cmp_c0_0 cmp_c0_0.length c_cmp_c0_0] 32 :: Fz F W :: cs)) ⟨by kernel_rfl⟩ (fun w_ hM hS => let ⟨w', he, h'⟩ := hM.ostore' 0 rfl (m131 * 1 + 0) [vI x28] (by have z_ : y127.length = l46.length * 1 := h129.len; have y_ : (m131 + 1) * 1 ≤ l46.length * 1 := Nat.mul_le_mul_right _ hl140; rw [Nat.add_mul] at y_; simp only [List.length_cons, List.length_nil]; omega) hl142 hy144; ⟨w', he, h', (by exact h'.sub (.cons _ (.cons_cons _ (.cons_cons _ (.refl _)))))⟩) ?_
        refine ops_conv (l' := [(76, vP g74 (m131 * 1)), (74, vI x28), (0, .slice (some ⟨g74, 0, none⟩) l66.length c_data), (10, vI i2), (13, vI i12)]) (M' := Mem w0 (orow (some ⟨g74, 0, none⟩) l66.length c_data 3 1 y143 :: .blk b_cmp_c0 [.slice A_cmp_c0_0 cmp_c0_0.length c_cmp_c0_0] 32 :: Fz F W :: cs)) (by first | rfl | rw [hl142]) (fun w_ hM => by first | exact hM | (rw [hl142] at hM; exact hM)) ?_
        refine oR [] [(0, .slice (some ⟨g74, 0, none⟩) l66.length c_data), (10, vI i2), (13, vI i12)] [0, 10, 13] (by kernel_rfl) ?_
        refine ops_nil ?_
        refine fin_block ?_
        exact fin_join HJ4 (l66, y143) ⟨hp, h145, (hl142.symm.trans (hl126.symm.trans hl11))⟩ (look_has ⟨rfl, rfl, rfl, trivial⟩) (fun w_ hM => hM)
     · --
      have hp := cnd_f hc13 hp
      refine st_exit ?_
      refine fin_exit_then ?_
      refine fin_exit_then ?_
      refine fin_exit ?_
      obtain hq_ := Option.some.inj hp
      subst hq_
      obtain hq_ := hd3 _ rfl
      subst hq_
      have hp : slices_symMergeCmpFunc_int_j2 l8 = some l8001 := hk3
      exact fin_join HJ2 (l8, y9) ⟨hp, h10, hl11⟩ (look_has trivial) (fun w_ hM => hM)
   · --
    intro HJ1
    refine st_seq ?_
    refine st_block ?_
    obtain ⟨r5, hl5, hk5⟩ := obind hp
    refine st_loopP (σ := Int × Int) (ρ := Int) (γ := Unit) hl5 () (fun s_ g_ => match s_, g_ with | (i148, i149), _ => [(0, .slice A_data data.length c_data), (1, vI a), (4, .func (.func 52) #[] #[vP b_cmp_c0 0]), (10, vI i148), (11, vI i149)]) (fun s_ g_ => match s_, g_ with | (i148, i149), _ => Mem w0 (orow A_data data.length c_data 3 1 y_data :: .blk b_cmp_c0 [.slice A_cmp_c0_0 cmp_c0_0.length c_cmp_c0_0] 32 :: Fz F W :: cs)) (fun s_ g_ => match s_, g_ with | (i148, i149), _ => (RdS (Rep.int .i64) F W A_cmp_c0_0 c_cmp_c0_0 cmp_c0_0)) h_cmp_c0_0 (look_has ⟨rfl, rfl, rfl, rfl, rfl, trivial⟩) (fun w_ hM => hM) ?_
    rintro ⟨i148, i149⟩ _ o5 h147 hs_ hd5
    have hp : (slices_symMergeCmpFunc_int_l5 data a cmp_c0_0) i148 i149 = some o5 := hs_
    clear hs_
    unfold slices_symMergeCmpFunc_int_l5 at hp
    refine st_conv (l' := [(0, .slice A_data data.length c_data), (1, vI a), (4, .func (.func 52) #[] #[vP b_cmp_c0 0]), (10, vI i148), (11, vI i149)]) (M' := Mem w0 (orow A_data data.length c_data 3 1 y_data :: .blk b_cmp_c0 [.slice A_cmp_c0_0 cmp_c0_0.length c_cmp_c0_0] 32 :: Fz F W :: cs)) rfl (fun _ h => h) ?_
    refine st_seq ?_
    refine st_seq ?_
    refine st_region [oF 0, oF 1, oF 2] (by rfl) ?_
    refine oR [oF 0, oF 1, oF 2] [(33, .bool (decide (i148 < i149))), (0, .slice A_data data.length c_data), (1, vI a), (4, .func (.func 52) #[] #[vP b_cmp_c0 0]), (10, vI i148), (11, vI i149)] [33, 0, 1, 4, 10, 11] (by kernel_rfl) ?_
    refine ops_nil ?_
    refine fin_then ?_
    refine st_if (b := decide (i148 < i149)) rfl (fun hc150 => ?_) (fun hc150 => ?_)
    · --
     have hp := cnd_t hc150 hp
     refine st_skip ?_
     refine fin_then ?_
     refine st_block ?_
     refine st_seq ?_
     refine st_region [oF 0, oF 1, oF 2, oF 3, oF 4, oF 5, oF 6] (by rfl) ?_
     refine oR [oF 0, oF 1, oF 2, oF 3, oF 4, oF 5, oF 6] [(12, vI (IntKind.i64.wrap (Int.fdiv (IntKind.u64.wrap (IntKind.i64.wrap (i148 + i149))) 2))), (0, .slice A_data data.length c_data), (1, vI a), (4, .func (.func 52) #[] #[vP b_cmp_c0 0]), (10, vI i148), (11, vI i149)] [12, 0, 1, 4, 10, 11] (by kernel_rfl) ?_
     obtain ⟨x151, hv152, hp⟩ := obind hp
     refine ops_conv (l' := [(12, vI x151), (0, .slice A_data data.length c_data), (1, vI a), (4, .func (.func 52) #[] #[vP b_cmp_c0 0]), (10, vI i148), (11, vI i149)]) (by rw [← Option.some.inj hv152]) (fun _ h => h) ?_
     refine ops_nil ?_
     refine fin_then ?_
     refine st_seq ?_
     refine st_region_draw [oT 0, oT 1, oT 2, oT 3, oT 4, oT 5, oT 6, oT 7, oT 8, oF 9, oT 10] (Mem w0 (orow A_data data.length c_data 3 1 y_data :: .blk b_cmp_c0 [.slice A_cmp_c0_0 cmp_c0_0.length c_cmp_c0_0] 32 :: Fz F W :: cs)) (by kernel_rfl) (by kernel_rfl) (by kernel_rfl) (fun _ d _ _ _ h => by cases d <;> exact h) (M' := Mem w0 (orow A_data data.length c_data 3 1 y_data :: .blk b_cmp_c0 [.slice A_cmp_c0_0 cmp_c0_0.length c_cmp_c0_0] 32 :: Fz F W :: cs)) (fun w_ hM => ⟨hM.drew, hM.drew.sub (.cons_cons _ (.cons_cons _ (.cons_cons _ (.refl _))))⟩) ?_
     refine oR [oT 0, oT 1, oT 2] [(42, vI x151), (41, .slice A_data data.length c_data), (40, .func (.func 52) #[] #[vP b_cmp_c0 0]), (12, vI x151), (0, .slice A_data data.length c_data), (1, vI a), (4, .func (.func 52) #[] #[vP b_cmp_c0 0]), (10, vI i148), (11, vI i149)] [42, 41, 40, 12, 0, 1, 4, 10, 11] (by kernel_rfl) ?_
     obtain ⟨x153, hv154, hp⟩ := obind hp
     obtain ⟨m155, hm156, hx157⟩ := idx_some hv154
     have hl160 := (List.getElem?_eq_some_iff.1 hx157).1
     refine ops_fact (fun w_ hM => hM.orowSome 0 rfl (Nat.lt_of_le_of_lt (Nat.zero_le _) hl160)) ?_
     rintro ⟨g161, rfl, -⟩
     obtain ⟨vs158, hr159, hq162⟩ := h_data.at_ m155 x153 hx157
     obtain rfl := hr159
     refine ops_val (op := (Go.Op.indexAddr 32 (Go.Operand.tmp 41) (Go.Operand.tmp 42))) (d := some 43) (v := vP g161 (m155 * 1)) ⟨by kernel_rfl⟩ (run_indexRow Try.underlying32 (z := 1) (by kernel_rfl) rfl rfl hm156 hl160 rfl) ?_
     refine oR [] [(43, vP g161 (m155 * 1)), (40, .func (.func 52) #[] #[vP b_cmp_c0 0]), (12, vI x151), (0, .slice (some ⟨g161, 0, none⟩) data.length c_data), (1, vI a), (4, .func (.func 52) #[] #[vP b_cmp_c0 0]), (10, vI i148), (11, vI i149)] [43, 40, 12, 0, 1, 4, 10, 11] (by kernel_rfl) ?_
     refine ops_load (d := some 44) (an := [.v (vI x153)]) (evs := [.load ⟨g161, m155 * 1, none⟩ (vI x153)]) (v := vI x153) ⟨by kernel_rfl⟩ (fun w_ hM => ⟨hM.ocell 0 rfl (hq162 0 _ rfl), rfl⟩) ?_
     refine oR [oT 5, oT 6] [(46, vI a), (45, .slice (some ⟨g161, 0, none⟩) data.length c_data), (44, vI x153), (40, .func (.func 52) #[] #[vP b_cmp_c0 0]), (12, vI x151), (0, .slice (some ⟨g161, 0, none⟩) data.length c_data), (1, vI a), (4, .func (.func 52) #[] #[vP b_cmp_c0 0]), (10, vI i148), (11, vI i149)] [46, 45, 44, 40, 12, 0, 1, 4, 10, 11] (by kernel_rfl) ?_
     obtain ⟨x163, hv164, hp⟩ := obind hp
     obtain ⟨m165, hm166, hx167⟩ := idx_some hv164
     have hl170 := (List.getElem?_eq_some_iff.1 hx167).1
     obtain ⟨vs168, hr169, hq171⟩ := h_data.at_ m165 x163 hx167
     obtain rfl := hr169
     refine ops_val (op := (Go.Op.indexAddr 32 (Go.Operand.tmp 45) (Go.Operand.tmp 46))) (d := some 47) (v := vP g161 (m165 * 1)) ⟨by kernel_rfl⟩ (run_indexRow Try.underlying32 (z := 1) (by kernel_rfl) rfl rfl hm166 hl170 rfl) ?_
     refine oR [] [(47, vP g161 (m165 * 1)), (44, vI x153), (40, .func (.func 52) #[] #[vP b_cmp_c0 0]), (12, vI x151), (0, .slice (some ⟨g161, 0, none⟩) data.length c_data), (1, vI a), (4, .func (.func 52) #[] #[vP b_cmp_c0 0]), (10, vI i148), (11, vI i149)] [47, 44, 40, 12, 0, 1, 4, 10, 11] (by kernel_rfl) ?_
     refine ops_load (d := some 48) (an := [.v (vI x163)]) (evs := [.load ⟨g161, m165 * 1, none⟩ (vI x163)]) (v := vI x163) ⟨by kernel_rfl⟩ (fun w_ hM => ⟨hM.ocell 0 rfl (hq171 0 _ rfl), rfl⟩) ?_
     refine oR [] [(48, vI x163), (44, vI x153), (40, .func (.func 52) #[] #[vP b_cmp_c0 0]), (12, vI x151), (0, .slice (some ⟨g161, 0, none⟩) data.length c_data), (1, vI a), (4, .func (.func 52) #[] #[vP b_cmp_c0 0]), (10, vI i148), (11, vI i149)] [48, 44, 40, 12, 0, 1, 4, 10, 11] (by kernel_rfl) ?_
     obtain ⟨x172, hv173, hp⟩ := obind hp
     refine ops_callI (σ := Unit) (d := some 49) (f := 52) (args := #[vI x153, vI x163, vP b_cmp_c0 0]) (v := (fun _ => vI x172)) (I := (fun _ => (RdS (Rep.int .i64) F W A_cmp_c0_0 c_cmp_c0_0 cmp_c0_0))) (M' := (fun _ => Mem w0 (orow (some ⟨g161, 0, none⟩) data.length c_data 3 1 y_data :: .blk b_cmp_c0 [.slice A_cmp_c0_0 cmp_c0_0.length c_cmp_c0_0] 32 :: Fz F W :: cs))) ⟨by kernel_rfl⟩ (fun w_ hM hS => (tourlaw1_QueueSorts_1_ok w0 w_ (orow (some ⟨g161, 0, none⟩) data.length c_data 3 1 y_data :: cs) F W x153 x163 b_cmp_c0 A_cmp_c0_0 c_cmp_c0_0 cmp_c0_0 (hM.pick 3 [1, 2, 0] (by kernel_rfl) (by decide) rfl) h147 x172 hv173).mono (by rintro e w' ⟨h174, rfl, h'⟩; have h' : Mem w0 (orow (some ⟨g161, 0, none⟩) data.length c_data 3 1 y_data :: .blk b_cmp_c0 [.slice A_cmp_c0_0 cmp_c0_0.length c_cmp_c0_0] 32 :: Fz F W :: cs) w' := (h'.pick 3 [2, 0, 1] (by kernel_rfl) (by decide) rfl); exact ⟨(), h174, rfl, h', (by exact h'.sub (.cons_cons _ (.cons_cons _ (.cons_cons _ (.refl _)))))⟩)) ?_
     rintro _ h174
     refine ops_conv (l' := [(49, vI x172), (48, vI x163), (44, vI x153), (40, .func (.func 52) #[] #[vP b_cmp_c0 0]), (12, vI x151), (0, .slice (some ⟨g161, 0, none⟩) data.length c_data), (1, vI a), (4, .func (.func 52) #[] #[vP b_cmp_c0 0]), (10, vI i148), (11, vI i149)]) (M' := Mem w0 (orow (some ⟨g161, 0, none⟩) data.length c_data 3 1 y_data :: .blk b_cmp_c0 [.slice A_cmp_c0_0 cmp_c0_0.length c_cmp_c0_0] 32 :: Fz F W :: cs)) rfl (fun _ h => h) ?_
     refine oR [oT 10] [(50, .bool (decide (x172 < 0))), (12, vI x151), (0, .slice (some ⟨g161, 0, none⟩) data.length c_data), (1, vI a), (4, .func (.func 52) #[] #[vP b_cmp_c0 0]), (10, vI i148), (11, vI i149)] [50, 12, 0, 1, 4, 10, 11] (by kernel_rfl) ?_
     refine ops_nil ?_
     refine fin_then ?_
     refine st_if (b := decide (x172 < 0)) rfl (fun hc175 => ?_) (fun hc175 => ?_)
     · --
      have hp := cnd_t hc175 hp
      refine st_region [oF 0, oF 1, oF 2] (by rfl) ?_
      refine oR [oF 0, oF 1, oF 2] [(10, vI (IntKind.i64.wrap (x151 + 1))), (0, .slice (some ⟨g161, 0, none⟩) data.length c_data), (1, vI a), (4, .func (.func 52) #[] #[vP b_cmp_c0 0]), (11, vI i149)] [10, 0, 1, 4, 11] (by kernel_rfl) ?_
      refine ops_nil ?_
      refine fin_block ?_
      exact fin_again (IntKind.i64.wrap (x151 + 1), i149) () (Option.some.inj hp).symm h174 (look_has ⟨rfl, rfl, rfl, rfl, rfl, trivial⟩) (fun w_ hM => hM)
     · --
      have hp := cnd_f hc175 hp
      refine st_region [oF 0, oF 1] (by rfl) ?_
      refine oR [oF 0, oF 1] [(11, vI x151), (0, .slice (some ⟨g161, 0, none⟩) data.length c_data), (1, vI a), (4, .func (.func 52) #[] #[vP b_cmp_c0 0]), (10, vI i148)] [11, 0, 1, 4, 10] (by kernel_rfl) ?_
      refine ops_nil ?_
      refine fin_block ?_
      exact fin_again (i148, x151) () (Option.some.inj hp).symm h174 (look_has ⟨rfl, rfl, rfl, rfl, rfl, trivial⟩) (fun w_ hM => hM)
    · --
     have hp := cnd_f hc150 hp
     refine st_exit ?_
     refine fin_exit_then ?_
     refine fin_exit_then ?_
     refine fin_exit ?_
     obtain hq_ := Option.some.inj hp
     subst hq_
     obtain hq_ := hd5 _ rfl
     subst hq_
     have hp : (slices_symMergeCmpFunc_int_j1 data a) i148 = some l8001 := hk5
     exact fin_join HJ1 i148 ⟨hp, h147⟩ (look_has ⟨rfl, rfl, rfl, trivial⟩) (fun w_ hM => hM)
  · --
   have hp := cnd_f hc1 hp
   refine st_skip ?_
   refine fin_then ?_
   refine st_seq ?_
   refine st_seq ?_
   refine st_region [oF 0, oF 1, oF 2, oF 3] (by rfl) ?_
   refine oR [oF 0, oF 1, oF 2, oF 3] [(80, .bool (IntKind.i64.wrap (b - m) == 1)), (0, .slice A_data data.length c_data), (1, vI a), (2, vI m), (3, vI b), (4, .func (.func 52) #[] #[vP b_cmp_c0 0])] [80, 0, 1, 2, 3, 4] (by kernel_rfl) ?_
   refine ops_nil ?_
   refine fin_then ?_
   refine st_if (b := (IntKind.i64.wrap (b - m) == 1)) rfl (fun hc176 => ?_) (fun hc176 => ?_)
   · --
    have hp := cnd_t hc176 hp
    refine st_seq ?_
    refine st_region [oF 0, oF 1] (by rfl) ?_
    refine oR [oF 0, oF 1] [(14, vI a), (0, .slice A_data data.length c_data), (2, vI m), (4, .func (.func 52) #[] #[vP b_cmp_c0 0])] [14, 0, 2, 4] (by kernel_rfl) ?_
    refine ops_nil ?_
    refine fin_then ?_
    refine st_seq ?_
    refine st_region [oF 0, oF 1] (by rfl) ?_
    refine oR [oF 0, oF 1] [(15, vI m), (14, vI a), (0, .slice A_data data.length c_data), (2, vI m), (4, .func (.func 52) #[] #[vP b_cmp_c0 0])] [15, 14, 0, 2, 4] (by kernel_rfl) ?_
    refine ops_nil ?_
    refine fin_then ?_
    refine st_join1 (σ := Int) (L := fun x_ => match x_ with | i177 => [(0, .slice A_data data.length c_data), (2, vI m), (14, vI i177)]) (N := fun x_ => match x_ with | i177 => Mem w0 (orow A_data data.length c_data 3 1 y_data :: .blk b_cmp_c0 [.slice A_cmp_c0_0 cmp_c0_0.length c_cmp_c0_0] 32 :: Fz F W :: cs)) (I := fun x_ => match x_ with | i177 => ((slices_symMergeCmpFunc_int_j6 data m) i177 = some l8001) ∧ (RdS (Rep.int .i64) F W A_cmp_c0_0 c_cmp_c0_0 cmp_c0_0)) ?_ ?_
    · --
     rintro i177 ⟨hp, h178⟩
     refine st_conv (l' := [(0, .slice A_data data.length c_data), (2, vI m), (14, vI i177)]) (M' := Mem w0 (orow A_data data.length c_data 3 1 y_data :: .blk b_cmp_c0 [.slice A_cmp_c0_0 cmp_c0_0.length c_cmp_c0_0] 32 :: Fz F W :: cs)) rfl (fun _ h => h) ?_
     unfold slices_symMergeCmpFunc_int_j6 at hp
     refine st_join1 (σ := (List Int) × (List Value)) (L := fun x_ => match x_ with | (l179, y180) => []) (N := fun x_ => match x_ with | (l179, y180) => Mem w0 (orow A_data l179.length c_data 3 1 y180 :: .blk b_cmp_c0 [.slice A_cmp_c0_0 cmp_c0_0.length c_cmp_c0_0] 32 :: Fz F W :: cs)) (I := fun x_ => match x_ with | (l179, y180) => (slices_symMergeCmpFunc_int_j7 l179 = some l8001) ∧ (RepL (Rep.int .i64) F W l179 y180) ∧ (l179.length = data.length)) ?_ ?_
     · --
      rintro ⟨l179, y180⟩ ⟨hp, h181, hl182⟩
      refine st_conv (l' := []) (M' := Mem w0 (orow A_data l179.length c_data 3 1 y180 :: .blk b_cmp_c0 [.slice A_cmp_c0_0 cmp_c0_0.length c_cmp_c0_0] 32 :: Fz F W :: cs)) rfl (fun _ h => h) ?_
      unfold slices_symMergeCmpFunc_int_j7 at hp
      refine st_ret ?_
      refine fin_ret_then ?_
      have hq_ := Option.some.inj hp
      have hr0_ := hq_
      subst hr0_
      refine fin_ret [] [] rfl rfl (fun w_ hM => .nil) (fun w_ hM => ?_)
      exact ⟨y180, ⟨h181, hl182⟩, rfl, hM⟩
     · --
      intro HJ7
      refine st_seq ?_
      refine st_seq ?_
      refine st_region [oF 0, oF 1] (by rfl) ?_
      refine oR [oF 0, oF 1] [(17, vI m), (0, .slice A_data data.length c_data), (14, vI i177)] [17, 0, 14] (by kernel_rfl) ?_
      refine ops_nil ?_
      refine fin_then ?_
      refine st_block ?_
      obtain ⟨r8, hl8, hk8⟩ := obind hp
      refine st_loopP (σ := (List Int) × Int) (ρ := (List Int)) (γ := (List Value)) hl8 y_data (fun s_ g_ => match s_, g_ with | (l183, i187), y184 => [(0, .slice A_data l183.length c_data), (14, vI i177), (17, vI i187)]) (fun s_ g_ => match s_, g_ with | (l183, i187), y184 => Mem w0 (orow A_data l183.length c_data 3 1 y184 :: .blk b_cmp_c0 [.slice A_cmp_c0_0 cmp_c0_0.length c_cmp_c0_0] 32 :: Fz F W :: cs)) (fun s_ g_ => match s_, g_ with | (l183, i187), y184 => (RepL (Rep.int .i64) F W l183 y184) ∧ (l183.length = data.length)) ⟨h_data, rfl⟩ (look_has ⟨rfl, rfl, rfl, trivial⟩) (fun w_ hM => hM) ?_
      rintro ⟨l183, i187⟩ y184 o8 ⟨h185, hl186⟩ hs_ hd8
      have hp : (slices_symMergeCmpFunc_int_l8 i177) l183 i187 = some o8 := hs_
      clear hs_
      unfold slices_symMergeCmpFunc_int_l8 at hp
      refine st_conv (l' := [(0, .slice A_data l183.length c_data), (14, vI i177), (17, vI i187)]) (M' := Mem w0 (orow A_data l183.length c_data 3 1 y184 :: .blk b_cmp_c0 [.slice A_cmp_c0_0 cmp_c0_0.length c_cmp_c0_0] 32 :: Fz F W :: cs)) rfl (fun _ h => h) ?_
      refine st_seq ?_
      refine st_seq ?_
      refine st_region [oF 0, oF 1, oF 2] (by rfl) ?_
      refine oR [oF 0, oF 1, oF 2] [(110, .bool (decide (i177 < i187))), (0, .slice A_data l183.length c_data), (14, vI i177), (17, vI i187)] [110, 0, 14, 17] (by kernel_rfl) ?_
      refine ops_nil ?_
      refine fin_then ?_
      refine st_if (b := decide (i177 < i187)) rfl (fun hc188 => ?_) (fun hc188 => ?_)
      · --
       have hp := cnd_t hc188 hp
       refine st_skip ?_
       refine fin_then ?_
       refine st_join1 (σ := (List Int) × (List Value)) (L := fun x_ => match x_ with | (l189, y190) => [(0, .slice A_data l189.length c_data), (14, vI i177), (17, vI i187)]) (N := fun x_ => match x_ with | (l189, y190) => Mem w0 (orow A_data l189.length c_data 3 1 y190 :: .blk b_cmp_c0 [.slice A_cmp_c0_0 cmp_c0_0.length c_cmp_c0_0] 32 :: Fz F W :: cs)) (I := fun x_ => match x_ with | (l189, y190) => ((slices_symMergeCmpFunc_int_j9 i187) l189 = some o8) ∧ (RepL (Rep.int .i64) F W l189 y190) ∧ (l189.length = data.length)) ?_ ?_
       · --
        rintro ⟨l189, y190⟩ ⟨hp, h191, hl192⟩
        refine st_conv (l' := [(0, .slice A_data l189.length c_data), (14, vI i177), (17, vI i187)]) (M' := Mem w0 (orow A_data l189.length c_data 3 1 y190 :: .blk b_cmp_c0 [.slice A_cmp_c0_0 cmp_c0_0.length c_cmp_c0_0] 32 :: Fz F W :: cs)) rfl (fun _ h => h) ?_
        unfold slices_symMergeCmpFunc_int_j9 at hp
        refine st_region [oF 0, oF 1, oF 2] (by rfl) ?_
        refine oR [oF 0, oF 1, oF 2] [(17, vI (IntKind.i64.wrap (i187 - 1))), (0, .slice A_data l189.length c_data), (14, vI i177)] [17, 0, 14] (by kernel_rfl) ?_
        refine ops_nil ?_
        exact fin_again (l189, IntKind.i64.wrap (i187 - 1)) y190 (Option.some.inj hp).symm ⟨h191, hl192⟩ (look_has ⟨rfl, rfl, rfl, trivial⟩) (fun w_ hM => hM)
       · --
        intro HJ9
        refine st_seq ?_
        refine st_block ?_
        obtain ⟨x193, hv194, hp⟩ := obind hp
        obtain ⟨x203, hv204, hp⟩ := obind hp
        obtain ⟨x212, hv213, hp⟩ := obind hp
        obtain ⟨l221, hv222, hp⟩ := obind hp
        obtain ⟨x232, hv233, hp⟩ := obind hp
        obtain ⟨l241, hv242, hp⟩ := obind hp
        refine st_region_tree (.node [oT 0, oT 1, oT 2, oT 3, oT 4, oT 5, oT 6, oT 7, oT 8, oT 10, oT 11, oT 12] (.leaf [oF 9, oF 13, oT 14, oF 15, oT 16, oF 17]) (.leaf [oF 13, oF 9, oT 14, oF 15, oT 16, oF 17])) (Mem w0 (.blk b_cmp_c0 [.slice A_cmp_c0_0 cmp_c0_0.length c_cmp_c0_0] 32 :: Fz F W :: cs)) (by kernel_rfl) (by kernel_rfl) (by kernel_rfl) (fun _ d _ _ _ h => by cases d <;> exact h) (M' := Mem w0 (orow A_data l183.length c_data 3 1 y184 :: .blk b_cmp_c0 [.slice A_cmp_c0_0 cmp_c0_0.length c_cmp_c0_0] 32 :: Fz F W :: cs)) (fun w_ hM => ⟨hM.drew, hM.drew.sub (.cons _ (.cons_cons _ (.cons_cons _ (.refl _))))⟩) ?_
        refine tree_node ?_
        refine oR [oT 0, oT 1, oT 2, oT 3, oT 4, oT 5, oT 6, oT 7] [(120, vI (IntKind.i64.wrap (i187 - 1))), (118, .slice A_data l183.length c_data), (117, vI (IntKind.i64.wrap (i187 - 1))), (115, .slice A_data l183.length c_data), (114, vI i187), (113, .slice A_data l183.length c_data), (0, .slice A_data l183.length c_data), (14, vI i177), (17, vI i187)] [120, 118, 117, 115, 114, 113, 0, 14, 17] (by kernel_rfl) ?_
        obtain ⟨m243, hm244, hx245⟩ := idx_some hv194
        have hl248 := (List.getElem?_eq_some_iff.1 hx245).1
        refine ops_fact (fun w_ hM => hM.orowSome 0 rfl (Nat.lt_of_le_of_lt (Nat.zero_le _) hl248)) ?_
        rintro ⟨g249, rfl, -⟩
        obtain ⟨vs246, hr247, hq250⟩ := h185.at_ m243 x193 hx245
        obtain rfl := hr247
        refine ops_val (op := (Go.Op.indexAddr 32 (Go.Operand.tmp 118) (Go.Operand.tmp 120))) (d := some 121) (v := vP g249 (m243 * 1)) ⟨by kernel_rfl⟩ (run_indexRow Try.underlying32 (z := 1) (by kernel_rfl) rfl rfl hm244 hl248 rfl) ?_
        refine oR [oT 10, oT 11] [(124, vI i187), (123, .slice (some ⟨g249, 0, none⟩) l183.length c_data), (121, vP g249 (m243 * 1)), (117, vI (IntKind.i64.wrap (i187 - 1))), (115, .slice (some ⟨g249, 0, none⟩) l183.length c_data), (114, vI i187), (113, .slice (some ⟨g249, 0, none⟩) l183.length c_data), (0, .slice (some ⟨g249, 0, none⟩) l183.length c_data), (14, vI i177), (17, vI i187)] [124, 123, 121, 117, 115, 114, 113, 0, 14, 17] (by kernel_rfl) ?_
        obtain ⟨m251, hm252, hx253⟩ := idx_some hv204
        have hl256 := (List.getElem?_eq_some_iff.1 hx253).1
        obtain ⟨vs254, hr255, hq257⟩ := h185.at_ m251 x203 hx253
        obtain rfl := hr255
        refine ops_val (op := (Go.Op.indexAddr 32 (Go.Operand.tmp 123) (Go.Operand.tmp 124))) (d := some 125) (v := vP g249 (m251 * 1)) ⟨by kernel_rfl⟩ (run_indexRow Try.underlying32 (z := 1) (by kernel_rfl) rfl rfl hm252 hl256 rfl) ?_
        refine oR [] [(125, vP g249 (m251 * 1)), (121, vP g249 (m243 * 1)), (117, vI (IntKind.i64.wrap (i187 - 1))), (115, .slice (some ⟨g249, 0, none⟩) l183.length c_data), (114, vI i187), (113, .slice (some ⟨g249, 0, none⟩) l183.length c_data), (0, .slice (some ⟨g249, 0, none⟩) l183.length c_data), (14, vI i177), (17, vI i187)] [125, 121, 117, 115, 114, 113, 0, 14, 17] (by kernel_rfl) ?_
        refine ops_nil ?_
        refine tree_both ?_ ?_
        · --
         refine tree_leaf ?_
         refine ops_mem (d := some 122) (an := [.v (vI x193)]) (evs := [.load ⟨g249, m243 * 1, none⟩ (vI x193)]) (v := vI x193) (M' := Mem w0 (orow (some ⟨g249, 0, none⟩) l183.length c_data 3 1 y184 :: .blk b_cmp_c0 [.slice A_cmp_c0_0 cmp_c0_0.length c_cmp_c0_0] 32 :: Fz F W :: cs)) ⟨by kernel_rfl⟩ (fun w_ hM hS => ⟨w_, ⟨hM.ocell 0 rfl (hq250 0 _ rfl), rfl⟩, hM, hS⟩) ?_
         refine oR [] [(122, vI x193), (125, vP g249 (m251 * 1)), (117, vI (IntKind.i64.wrap (i187 - 1))), (115, .slice (some ⟨g249, 0, none⟩) l183.length c_data), (114, vI i187), (113, .slice (some ⟨g249, 0, none⟩) l183.length c_data), (0, .slice (some ⟨g249, 0, none⟩) l183.length c_data), (14, vI i177), (17, vI i187)] [122, 125, 117, 115, 114, 113, 0, 14, 17] (by kernel_rfl) ?_
         refine ops_mem (d := some 126) (an := [.v (vI x203)]) (evs := [.load ⟨g249, m251 * 1, none⟩ (vI x203)]) (v := vI x203) (M' := Mem w0 (orow (some ⟨g249, 0, none⟩) l183.length c_data 3 1 y184 :: .blk b_cmp_c0 [.slice A_cmp_c0_0 cmp_c0_0.length c_cmp_c0_0] 32 :: Fz F W :: cs)) ⟨by kernel_rfl⟩ (fun w_ hM hS => ⟨w_, ⟨hM.ocell 0 rfl (hq257 0 _ rfl), rfl⟩, hM, hS⟩) ?_
         refine oR [] [(126, vI x203), (122, vI x193), (117, vI (IntKind.i64.wrap (i187 - 1))), (115, .slice (some ⟨g249, 0, none⟩) l183.length c_data), (114, vI i187), (113, .slice (some ⟨g249, 0, none⟩) l183.length c_data), (0, .slice (some ⟨g249, 0, none⟩) l183.length c_data), (14, vI i177), (17, vI i187)] [126, 122, 117, 115, 114, 113, 0, 14, 17] (by kernel_rfl) ?_
         obtain ⟨m258, hm259, hx260⟩ := idx_some hv213
         have hl263 := (List.getElem?_eq_some_iff.1 hx260).1
         obtain ⟨vs261, hr262, hq264⟩ := h185.at_ m258 x212 hx260
         obtain rfl := hr262
         refine ops_val (op := (Go.Op.indexAddr 32 (Go.Operand.tmp 113) (Go.Operand.tmp 114))) (d := some 127) (v := vP g249 (m258 * 1)) ⟨by kernel_rfl⟩ (run_indexRow Try.underlying32 (z := 1) (by kernel_rfl) rfl rfl hm259 hl263 rfl) ?_
         refine oR [] [(127, vP g249 (m258 * 1)), (126, vI x203), (122, vI x193), (117, vI (IntKind.i64.wrap (i187 - 1))), (115, .slice (some ⟨g249, 0, none⟩) l183.length c_data), (0, .slice (some ⟨g249, 0, none⟩) l183.length c_data), (14, vI i177), (17, vI i187)] [127, 126, 122, 117, 115, 0, 14, 17] (by kernel_rfl) ?_
         obtain ⟨m265, hm266, hl267, he268⟩ := upd_some hv222
         obtain rfl : m258 = m265 := by have := hm259; omega
         have hl269 : l183.length = l221.length := by rw [he268, List.length_set]
         obtain ⟨y270, hy271⟩ : ∃ y_, setAll y184 (m258 * 1 + 0) [vI x193] = y_ := ⟨_, rfl⟩
         have h272 : RepL (Rep.int .i64) F W l221 y270 := by rw [he268, ← hy271]; exact RepL.set h185 (List.getElem?_eq_getElem hl267) (fun vs_ hr_ _ => by obtain rfl := hr_; exact ⟨rfl, Nat.le_of_ble_eq_true rfl⟩)
         refine ops_store (an := []) (evs := [.store ⟨g249, m258 * 1, none⟩ (vI x193)]) (M' := Mem w0 (orow (some ⟨g249, 0, none⟩) l221.length c_data 3 1 y270 :: .blk b_cmp_c0 [.slice A_cmp_c0_0 cmp_c0_0.length c_cmp_c0_0] 32 :: Fz F W :: cs)) ⟨by kernel_rfl⟩ (fun w_ hM hS => let ⟨w', he, h'⟩ := hM.ostore' 0 rfl (m258 * 1 + 0) [vI x193] (by have z_ : y184.length = l183.length * 1 := h185.len; have y_ : (m258 + 1) * 1 ≤ l183.length * 1 := Nat.mul_le_mul_right _ hl267; rw [Nat.add_mul] at y_; simp only [List.length_cons, List.length_nil]; omega) hl269 hy271; ⟨w', he, h', (by exact h'.sub (.cons _ (.cons_cons _ (.cons_cons _ (.refl _)))))⟩) ?_
         refine ops_conv (l' := [(127, vP g249 (m258 * 1)), (126, vI x203), (122, vI x193), (117, vI (IntKind.i64.wrap (i187 - 1))), (115, .slice (some ⟨g249, 0, none⟩) l221.length c_data), (0, .slice (some ⟨g249, 0, none⟩) l221.length c_data), (14, vI i177), (17, vI i187)]) (M' := Mem w0 (orow (some ⟨g249, 0, none⟩) l221.length c_data 3 1 y270 :: .blk b_cmp_c0 [.slice A_cmp_c0_0 cmp_c0_0.length c_cmp_c0_0] 32 :: Fz F W :: cs)) (by first | rfl | rw [hl269]) (fun w_ hM => by first | exact hM | (rw [hl269] at hM; exact hM)) ?_
         refine oR [] [(126, vI x203), (117, vI (IntKind.i64.wrap (i187 - 1))), (115, .slice (some ⟨g249, 0, none⟩) l221.length c_data), (0, .slice (some ⟨g249, 0, none⟩) l221.length c_data), (14, vI i177), (17, vI i187)] [126, 117, 115, 0, 14, 17] (by kernel_rfl) ?_
         obtain ⟨m274, hm275, hx276⟩ := idx_some hv233
         have hl279 := (List.getElem?_eq_some_iff.1 hx276).1
         obtain ⟨vs277, hr278, hq280⟩ := h272.at_ m274 x232 hx276
         obtain rfl := hr278
         refine ops_val (op := (Go.Op.indexAddr 32 (Go.Operand.tmp 115) (Go.Operand.tmp 117))) (d := some 128) (v := vP g249 (m274 * 1)) ⟨by kernel_rfl⟩ (run_indexRow Try.underlying32 (z := 1) (by kernel_rfl) rfl rfl hm275 hl279 rfl) ?_
         refine oR [] [(128, vP g249 (m274 * 1)), (126, vI x203), (0, .slice (some ⟨g249, 0, none⟩) l221.length c_data), (14, vI i177), (17, vI i187)] [128, 126, 0, 14, 17] (by kernel_rfl) ?_
         obtain ⟨m281, hm282, hl283, he284⟩ := upd_some hv242
         obtain rfl : m274 = m281 := by have := hm275; omega
         have hl285 : l221.length = l241.length := by rw [he284, List.length_set]
         obtain ⟨y286, hy287⟩ : ∃ y_, setAll y270 (m274 * 1 + 0) [vI x203] = y_ := ⟨_, rfl⟩
         have h288 : RepL (Rep.int .i64) F W l241 y286 := by rw [he284, ← hy287]; exact RepL.set h272 (List.getElem?_eq_getElem hl283) (fun vs_ hr_ _ => by obtain rfl := hr_; exact ⟨rfl, Nat.le_of_ble_eq_true rfl⟩)
         refine ops_store (an := []) (evs := [.store ⟨g249, m274 * 1, none⟩ (vI x203)]) (M' := Mem w0 (orow (some ⟨g249, 0, none⟩) l241.length c_data 3 1 y286 :: .blk b_cmp_c0 [.slice A_cmp_c0_0 cmp_c0_0.length c_cmp_c0_0] 32 :: Fz F W :: cs)) ⟨by kernel_rfl⟩ (fun w_ hM hS => let ⟨w', he, h'⟩ := hM.ostore' 0 rfl (m274 * 1 + 0) [vI x203] (by have z_ : y270.length = l221.length * 1 := h272.len; have y_ : (m274 + 1) * 1 ≤ l221.length * 1 := Nat.mul_le_mul_right _ hl283; rw [Nat.add_mul] at y_; simp only [List.length_cons, List.length_nil]; omega) hl285 hy287; ⟨w', he, h', (by exact h'.sub (.cons _ (.cons_cons _ (.cons_cons _ (.refl _)))))⟩) ?_
         refine ops_conv (l' := [(128, vP g249 (m274 * 1)), (126, vI x203), (0, .slice (some ⟨g249, 0, none⟩) l241.length c_data), (14, vI i177), (17, vI i187)]) (M' := Mem w0 (orow (some ⟨g249, 0, none⟩) l241.length c_data 3 1 y286 :: .blk b_cmp_c0 [.slice A_cmp_c0_0 cmp_c0_0.length c_cmp_c0_0] 32 :: Fz F W :: cs)) (by first | rfl | rw [hl285]) (fun w_ hM => by first | exact hM | (rw [hl285] at hM; exact hM)) ?_
         refine oR [] [(0, .slice (some ⟨g249, 0, none⟩) l241.length c_data), (14, vI i177), (17, vI i187)] [0, 14, 17] (by kernel_rfl) ?_
         refine ops_nil ?_
         refine fin_block ?_
         exact fin_join HJ9 (l241, y286) ⟨hp, h288, (hl285.symm.trans (hl269.symm.trans hl186))⟩ (look_has ⟨rfl, rfl, rfl, trivial⟩) (fun w_ hM => hM)
        · --
         refine tree_leaf ?_
         refine ops_mem (d := some 126) (an := [.v (vI x203)]) (evs := [.load ⟨g249, m251 * 1, none⟩ (vI x203)]) (v := vI x203) (M' := Mem w0 (orow (some ⟨g249, 0, none⟩) l183.length c_data 3 1 y184 :: .blk b_cmp_c0 [.slice A_cmp_c0_0 cmp_c0_0.length c_cmp_c0_0] 32 :: Fz F W :: cs)) ⟨by kernel_rfl⟩ (fun w_ hM hS => ⟨w_, ⟨hM.ocell 0 rfl (hq257 0 _ rfl), rfl⟩, hM, hS⟩) ?_
         refine oR [] [(126, vI x203), (121, vP g249 (m243 * 1)), (117, vI (IntKind.i64.wrap (i187 - 1))), (115, .slice (some ⟨g249, 0, none⟩) l183.length c_data), (114, vI i187), (113, .slice (some ⟨g249, 0, none⟩) l183.length c_data), (0, .slice (some ⟨g249, 0, none⟩) l183.length c_data), (14, vI i177), (17, vI i187)] [126, 121, 117, 115, 114, 113, 0, 14, 17] (by kernel_rfl) ?_
         refine ops_mem (d := some 122) (an := [.v (vI x193)]) (evs := [.load ⟨g249, m243 * 1, none⟩ (vI x193)]) (v := vI x193) (M' := Mem w0 (orow (some ⟨g249, 0, none⟩) l183.length c_data 3 1 y184 :: .blk b_cmp_c0 [.slice A_cmp_c0_0 cmp_c0_0.length c_cmp_c0_0] 32 :: Fz F W :: cs)) ⟨by kernel_rfl⟩ (fun w_ hM hS => ⟨w_, ⟨hM.ocell 0 rfl (hq250 0 _ rfl), rfl⟩, hM, hS⟩) ?_
         refine oR [] [(122, vI x193), (126, vI x203), (117, vI (IntKind.i64.wrap (i187 - 1))), (115, .slice (some ⟨g249, 0, none⟩) l183.length c_data), (114, vI i187), (113, .slice (some ⟨g249, 0, none⟩) l183.length c_data), (0, .slice (some ⟨g249, 0, none⟩) l183.length c_data), (14, vI i177), (17, vI i187)] [122, 126, 117, 115, 114, 113, 0, 14, 17] (by kernel_rfl) ?_
         obtain ⟨m290, hm291, hx292⟩ := idx_some hv213
         have hl295 := (List.getElem?_eq_some_iff.1 hx292).1
         obtain ⟨vs293, hr294, hq296⟩ := h185.at_ m290 x212 hx292
         obtain rfl := hr294
         refine ops_val (op := (Go.Op.indexAddr 32 (Go.Operand.tmp 113) (Go.Operand.tmp 114))) (d := some 127) (v := vP g249 (m290 * 1)) ⟨by kernel_rfl⟩ (run_indexRow Try.underlying32 (z := 1) (by kernel_rfl) rfl rfl hm291 hl295 rfl) ?_
         refine oR [] [(127, vP g249 (m290 * 1)), (122, vI x193), (126, vI x203), (117, vI (IntKind.i64.wrap (i187 - 1))), (115, .slice (some ⟨g249, 0, none⟩) l183.length c_data), (0, .slice (some ⟨g249, 0, none⟩) l183.length c_data), (14, vI i177), (17, vI i187)] [127, 122, 126, 117, 115, 0, 14, 17] (by kernel_rfl) ?_
         obtain ⟨m297, hm298, hl299, he300⟩ := upd_some hv222
         obtain rfl : m290 = m297 := by have := hm291; omega
         have hl301 : l183.length = l221.length := by rw [he300, List.length_set]
         obtain ⟨y302, hy303⟩ : ∃ y_, setAll y184 (m290 * 1 + 0) [vI x193] = y_ := ⟨_, rfl⟩
         have h304 : RepL (Rep.int .i64) F W l221 y302 := by rw [he300, ← hy303]; exact RepL.set h185 (List.getElem?_eq_getElem hl299) (fun vs_ hr_ _ => by obtain rfl := hr_; exact ⟨rfl, Nat.le_of_ble_eq_true rfl⟩)
         refine ops_store (an := []) (evs := [.store ⟨g249, m290 * 1, none⟩ (vI x193)]) (M' := Mem w0 (orow (some ⟨g249, 0, none⟩) l221.length c_data 3 1 y302 :: .blk b_cmp_c0 [.slice A_cmp_c0_0 cmp_c0_0.length c_cmp_c0_0] 32 :: Fz F W :: cs)) ⟨by kernel_rfl⟩ (fun w_ hM hS => let ⟨w', he, h'⟩ := hM.ostore' 0 rfl (m290 * 1 + 0) [vI x193] (by have z_ : y184.length = l183.length * 1 := h185.len; have y_ : (m290 + 1) * 1 ≤ l183.length * 1 := Nat.mul_le_mul_right _ hl299; rw [Nat.add_mul] at y_; simp only [List.length_cons, List.length_nil]; omega) hl301 hy303; ⟨w', he, h', (by exact h'.sub (.cons _ (.cons_cons _ (.cons_cons _ (.refl _)))))⟩) ?_
         refine ops_conv (l' := [(127, vP g249 (m290 * 1)), (122, vI x193), (126, vI x203), (117, vI (IntKind.i64.wrap (i187 - 1))), (115, .slice (some ⟨g249, 0, none⟩) l221.length c_data), (0, .slice (some ⟨g249, 0, none⟩) l221.length c_data), (14, vI i177), (17, vI i187)]) (M' := Mem w0 (orow (some ⟨g249, 0, none⟩) l221.length c_data 3 1 y302 :: .blk b_cmp_c0 [.slice A_cmp_c0_0 cmp_c0_0.length c_cmp_c0_0] 32 :: Fz F W :: cs)) (by first | rfl | rw [hl301]) (fun w_ hM => by first | exact hM | (rw [hl301] at hM; exact hM)) ?_
         refine oR [] [(126, vI x203), (117, vI (IntKind.i64.wrap (i187 - 1))), (115, .slice (some ⟨g249, 0, none⟩) l221.length c_data), (0, .slice (some ⟨g249, 0, none⟩) l221.length c_data), (14, vI i177), (17, vI i187)] [126, 117, 115, 0, 14, 17] (by kernel_rfl) ?_
         obtain ⟨m306, hm307, hx308⟩ := idx_some hv233
         have hl311 := (List.getElem?_eq_some_iff.1 hx308).1
         obtain ⟨vs309, hr310, hq312⟩ := h304.at_ m306 x232 hx308
         obtain rfl := hr310
         refine ops_val (op := (Go.Op.indexAddr 32 (Go.Operand.tmp 115) (Go.Operand.tmp 117))) (d := some 128) (v := vP g249 (m306 * 1)) ⟨by kernel_rfl⟩ (run_indexRow Try.underlying32 (z := 1) (by kernel_rfl) rfl rfl hm307 hl311 rfl) ?_
         refine oR [] [(128, vP g249 (m306 * 1)), (126, vI x203), (0, .slice (some ⟨g249, 0, none⟩) l221.length c_data), (14, vI i177), (17, vI i187)] [128, 126, 0, 14, 17] (by kernel_rfl) ?_
         obtain ⟨m313, hm314, hl315, he316⟩ := upd_some hv242
         obtain rfl : m306 = m313 := by have := hm307; omega
         have hl317 : l221.length = l241.length := by rw [he316, List.length_set]
         obtain ⟨y318, hy319⟩ : ∃ y_, setAll y302 (m306 * 1 + 0) [vI x203] = y_ := ⟨_, rfl⟩
         have h320 : RepL (Rep.int .i64) F W l241 y318 := by rw [he316, ← hy319]; exact RepL.set h304 (List.getElem?_eq_getElem hl315) (fun vs_ hr_ _ => by obtain rfl := hr_; exact ⟨rfl, Nat.le_of_ble_eq_true rfl⟩)
         refine ops_store (an := []) (evs := [.store ⟨g249, m306 * 1, none⟩ (vI x203)]) (M' := Mem w0 (orow (some ⟨g249, 0, none⟩) l241.length c_data 3 1 y318 :: .blk b_cmp_c0 [.slice A_cmp_c0_0 cmp_c0_0.length c_cmp_c0_0] 32 :: Fz F W :: cs)) ⟨by kernel_rfl⟩ (fun w_ hM hS => let ⟨w', he, h'⟩ := hM.ostore' 0 rfl (m306 * 1 + 0) [vI x203] (by have z_ : y302.length = l221.length * 1 := h304.len; have y_ : (m306 + 1) * 1 ≤ l221.length * 1 := Nat.mul_le_mul_right _ hl315; rw [Nat.add_mul] at y_; simp only [List.length_cons, List.length_nil]; omega) hl317 hy319; ⟨w', he, h', (by exact h'.sub (.cons _ (.cons_cons _ (.cons_cons _ (.refl _)))))⟩) ?_
         refine ops_conv (l' := [(128, vP g249 (m306 * 1)), (126, vI x203), (0, .slice (some ⟨g249, 0, none⟩) l241.length c_data), (14, vI i177), (17, vI i187)]) (M' := Mem w0 (orow (some ⟨g249, 0, none⟩) l241.length c_data 3 1 y318 :: .blk b_cmp_c0 [.slice A_cmp_c0_0 cmp_c0_0.length c_cmp_c0_0] 32 :: Fz F W :: cs)) (by first | rfl | rw [hl317]) (fun w_ hM => by first | exact hM | (rw [hl317] at hM; exact hM)) ?_
         refine oR [] [(0, .slice (some ⟨g249, 0, none⟩) l241.length c_data), (14, vI i177), (17, vI i187)] [0, 14, 17] (by kernel_rfl) ?_
         refine ops_nil ?_
         refine fin_block ?_
         exact fin_join HJ9 (l241, y318) ⟨hp, h320, (hl317.symm.trans (hl301.symm.trans hl186))⟩ (look_has ⟨rfl, rfl, rfl, trivial⟩) (fun w_ hM => hM)
      · --
       have hp := cnd_f hc188 hp
       refine st_exit ?_
       refine fin_exit_then ?_
       refine fin_exit_then ?_
       refine fin_exit ?_
       obtain hq_ := Option.some.inj hp
       subst hq_
       obtain hq_ := hd8 _ rfl
       subst hq_
       have hp : slices_symMergeCmpFunc_int_j7 l183 = some l8001 := hk8
       exact fin_join HJ7 (l183, y184) ⟨hp, h185, hl186⟩ (look_has trivial) (fun w_ hM => hM)
    · --
     intro HJ6
     refine st_seq ?_
     refine st_block ?_
     obtain ⟨r10, hl10, hk10⟩ := obind hp
     refine st_loopP (σ := Int × Int) (ρ := Int) (γ := Unit) hl10 () (fun s_ g_ => match s_, g_ with | (i323, i324), _ => [(0, .slice A_data data.length c_data), (2, vI m), (4, .func (.func 52) #[] #[vP b_cmp_c0 0]), (14, vI i323), (15, vI i324)]) (fun s_ g_ => match s_, g_ with | (i323, i324), _ => Mem w0 (orow A_data data.length c_data 3 1 y_data :: .blk b_cmp_c0 [.slice A_cmp_c0_0 cmp_c0_0.length c_cmp_c0_0] 32 :: Fz F W :: cs)) (fun s_ g_ => match s_, g_ with | (i323, i324), _ => (RdS (Rep.int .i64) F W A_cmp_c0_0 c_cmp_c0_0 cmp_c0_0)) h_cmp_c0_0 (look_has ⟨rfl, rfl, rfl, rfl, rfl, trivial⟩) (fun w_ hM => hM) ?_
     rintro ⟨i323, i324⟩ _ o10 h322 hs_ hd10
     have hp : (slices_symMergeCmpFunc_int_l10 data m cmp_c0_0) i323 i324 = some o10 := hs_
     clear hs_
     unfold slices_symMergeCmpFunc_int_l10 at hp
     refine st_conv (l' := [(0, .slice A_data data.length c_data), (2, vI m), (4, .func (.func 52) #[] #[vP b_cmp_c0 0]), (14, vI i323), (15, vI i324)]) (M' := Mem w0 (orow A_data data.length c_data 3 1 y_data :: .blk b_cmp_c0 [.slice A_cmp_c0_0 cmp_c0_0.length c_cmp_c0_0] 32 :: Fz F W :: cs)) rfl (fun _ h => h) ?_
     refine st_seq ?_
     refine st_seq ?_
     refine st_region [oF 0, oF 1, oF 2] (by rfl) ?_
     refine oR [oF 0, oF 1, oF 2] [(85, .bool (decide (i323 < i324))), (0, .slice A_data data.length c_data), (2, vI m), (4, .func (.func 52) #[] #[vP b_cmp_c0 0]), (14, vI i323), (15, vI i324)] [85, 0, 2, 4, 14, 15] (by kernel_rfl) ?_
     refine ops_nil ?_
     refine fin_then ?_
     refine st_if (b := decide (i323 < i324)) rfl (fun hc325 => ?_) (fun hc325 => ?_)
     · --
      have hp := cnd_t hc325 hp
      refine st_skip ?_
      refine fin_then ?_
      refine st_block ?_
      refine st_seq ?_
      refine st_region [oF 0, oF 1, oF 2, oF 3, oF 4, oF 5, oF 6] (by rfl) ?_
      refine oR [oF 0, oF 1, oF 2, oF 3, oF 4, oF 5, oF 6] [(16, vI (IntKind.i64.wrap (Int.fdiv (IntKind.u64.wrap (IntKind.i64.wrap (i323 + i324))) 2))), (0, .slice A_data data.length c_data), (2, vI m), (4, .func (.func 52) #[] #[vP b_cmp_c0 0]), (14, vI i323), (15, vI i324)] [16, 0, 2, 4, 14, 15] (by kernel_rfl) ?_
      obtain ⟨x326, hv327, hp⟩ := obind hp
      refine ops_conv (l' := [(16, vI x326), (0, .slice A_data data.length c_data), (2, vI m), (4, .func (.func 52) #[] #[vP b_cmp_c0 0]), (14, vI i323), (15, vI i324)]) (by rw [← Option.some.inj hv327]) (fun _ h => h) ?_
      refine ops_nil ?_
      refine fin_then ?_
      refine st_seq ?_
      refine st_region_draw [oT 0, oT 1, oT 2, oT 3, oT 4, oT 5, oT 6, oT 7, oT 8, oF 9, oT 10, oT 11] (Mem w0 (orow A_data data.length c_data 3 1 y_data :: .blk b_cmp_c0 [.slice A_cmp_c0_0 cmp_c0_0.length c_cmp_c0_0] 32 :: Fz F W :: cs)) (by kernel_rfl) (by kernel_rfl) (by kernel_rfl) (fun _ d _ _ _ h => by cases d <;> exact h) (M' := Mem w0 (orow A_data data.length c_data 3 1 y_data :: .blk b_cmp_c0 [.slice A_cmp_c0_0 cmp_c0_0.length c_cmp_c0_0] 32 :: Fz F W :: cs)) (fun w_ hM => ⟨hM.drew, hM.drew.sub (.cons_cons _ (.cons_cons _ (.cons_cons _ (.refl _))))⟩) ?_
      refine oR [oT 0, oT 1, oT 2] [(94, vI m), (93, .slice A_data data.length c_data), (92, .func (.func 52) #[] #[vP b_cmp_c0 0]), (16, vI x326), (0, .slice A_data data.length c_data), (2, vI m), (4, .func (.func 52) #[] #[vP b_cmp_c0 0]), (14, vI i323), (15, vI i324)] [94, 93, 92, 16, 0, 2, 4, 14, 15] (by kernel_rfl) ?_
      obtain ⟨x328, hv329, hp⟩ := obind hp
      obtain ⟨m330, hm331, hx332⟩ := idx_some hv329
      have hl335 := (List.getElem?_eq_some_iff.1 hx332).1
      refine ops_fact (fun w_ hM => hM.orowSome 0 rfl (Nat.lt_of_le_of_lt (Nat.zero_le _) hl335)) ?_
      rintro ⟨g336, rfl, -⟩
      obtain ⟨vs333, hr334, hq337⟩ := h_data.at_ m330 x328 hx332
      obtain rfl := hr334
      refine ops_val (op := (Go.Op.indexAddr 32 (Go.Operand.tmp 93) (Go.Operand.tmp 94))) (d := some 95) (v := vP g336 (m330 * 1)) ⟨by kernel_rfl⟩ (run_indexRow Try.underlying32 (z := 1) (by kernel_rfl) rfl rfl hm331 hl335 rfl) ?_
      refine oR [] [(95, vP g336 (m330 * 1)), (92, .func (.func 52) #[] #[vP b_cmp_c0 0]), (16, vI x326), (0, .slice (some ⟨g336, 0, none⟩) data.length c_data), (2, vI m), (4, .func (.func 52) #[] #[vP b_cmp_c0 0]), (14, vI i323), (15, vI i324)] [95, 92, 16, 0, 2, 4, 14, 15] (by kernel_rfl) ?_
      refine ops_load (d := some 96) (an := [.v (vI x328)]) (evs := [.load ⟨g336, m330 * 1, none⟩ (vI x328)]) (v := vI x328) ⟨by kernel_rfl⟩ (fun w_ hM => ⟨hM.ocell 0 rfl (hq337 0 _ rfl), rfl⟩) ?_
      refine oR [oT 5, oT 6] [(98, vI x326), (97, .slice (some ⟨g336, 0, none⟩) data.length c_data), (96, vI x328), (92, .func (.func 52) #[] #[vP b_cmp_c0 0]), (16, vI x326), (0, .slice (some ⟨g336, 0, none⟩) data.length c_data), (2, vI m), (4, .func (.func 52) #[] #[vP b_cmp_c0 0]), (14, vI i323), (15, vI i324)] [98, 97, 96, 92, 16, 0, 2, 4, 14, 15] (by kernel_rfl) ?_
      obtain ⟨x338, hv339, hp⟩ := obind hp
      obtain ⟨m340, hm341, hx342⟩ := idx_some hv339
      have hl345 := (List.getElem?_eq_some_iff.1 hx342).1
      obtain ⟨vs343, hr344, hq346⟩ := h_data.at_ m340 x338 hx342
      obtain rfl := hr344
      refine ops_val (op := (Go.Op.indexAddr 32 (Go.Operand.tmp 97) (Go.Operand.tmp 98))) (d := some 99) (v := vP g336 (m340 * 1)) ⟨by kernel_rfl⟩ (run_indexRow Try.underlying32 (z := 1) (by kernel_rfl) rfl rfl hm341 hl345 rfl) ?_
      refine oR [] [(99, vP g336 (m340 * 1)), (96, vI x328), (92, .func (.func 52) #[] #[vP b_cmp_c0 0]), (16, vI x326), (0, .slice (some ⟨g336, 0, none⟩) data.length c_data), (2, vI m), (4, .func (.func 52) #[] #[vP b_cmp_c0 0]), (14, vI i323), (15, vI i324)] [99, 96, 92, 16, 0, 2, 4, 14, 15] (by kernel_rfl) ?_
      refine ops_load (d := some 100) (an := [.v (vI x338)]) (evs := [.load ⟨g336, m340 * 1, none⟩ (vI x338)]) (v := vI x338) ⟨by kernel_rfl⟩ (fun w_ hM => ⟨hM.ocell 0 rfl (hq346 0 _ rfl), rfl⟩) ?_
      refine oR [] [(100, vI x338), (96, vI x328), (92, .func (.func 52) #[] #[vP b_cmp_c0 0]), (16, vI x326), (0, .slice (some ⟨g336, 0, none⟩) data.length c_data), (2, vI m), (4, .func (.func 52) #[] #[vP b_cmp_c0 0]), (14, vI i323), (15, vI i324)] [100, 96, 92, 16, 0, 2, 4, 14, 15] (by kernel_rfl) ?_
      obtain ⟨x347, hv348, hp⟩ := obind hp
      refine ops_callI (σ := Unit) (d := some 101) (f := 52) (args := #[vI x328, vI x338, vP b_cmp_c0 0]) (v := (fun _ => vI x347)) (I := (fun _ => (RdS (Rep.int .i64) F W A_cmp_c0_0 c_cmp_c0_0 cmp_c0_0))) (M' := (fun _ => Mem w0 (orow (some ⟨g336, 0, none⟩) data.length c_data 3 1 y_data :: .blk b_cmp_c0 [.slice A_cmp_c0_0 cmp_c0_0.length c_cmp_c0_0] 32 :: Fz F W :: cs))) ⟨by kernel_rfl⟩ (fun w_ hM hS => (tourlaw1_QueueSorts_1_ok w0 w_ (orow (some ⟨g336, 0, none⟩) data.length c_data 3 1 y_data :: cs) F W x328 x338 b_cmp_c0 A_cmp_c0_0 c_cmp_c0_0 cmp_c0_0 (hM.pick 3 [1, 2, 0] (by kernel_rfl) (by decide) rfl) h322 x347 hv348).mono (by rintro e w' ⟨h349, rfl, h'⟩; have h' : Mem w0 (orow (some ⟨g336, 0, none⟩) data.length c_data 3 1 y_data :: .blk b_cmp_c0 [.slice A_cmp_c0_0 cmp_c0_0.length c_cmp_c0_0] 32 :: Fz F W :: cs) w' := (h'.pick 3 [2, 0, 1] (by kernel_rfl) (by decide) rfl); exact ⟨(), h349, rfl, h', (by exact h'.sub (.cons_cons _ (.cons_cons _ (.cons_cons _ (.refl _)))))⟩)) ?_
      rintro _ h349
      refine ops_conv (l' := [(101, vI x347), (100, vI x338), (96, vI x328), (92, .func (.func 52) #[] #[vP b_cmp_c0 0]), (16, vI x326), (0, .slice (some ⟨g336, 0, none⟩) data.length c_data), (2, vI m), (4, .func (.func 52) #[] #[vP b_cmp_c0 0]), (14, vI i323), (15, vI i324)]) (M' := Mem w0 (orow (some ⟨g336, 0, none⟩) data.length c_data 3 1 y_data :: .blk b_cmp_c0 [.slice A_cmp_c0_0 cmp_c0_0.length c_cmp_c0_0] 32 :: Fz F W :: cs)) rfl (fun _ h => h) ?_
      refine oR [oT 10, oT 11] [(103, .bool (!(decide (x347 < 0)))), (16, vI x326), (0, .slice (some ⟨g336, 0, none⟩) data.length c_data), (2, vI m), (4, .func (.func 52) #[] #[vP b_cmp_c0 0]), (14, vI i323), (15, vI i324)] [103, 16, 0, 2, 4, 14, 15] (by kernel_rfl) ?_
      refine ops_nil ?_
      refine fin_then ?_
      refine st_if (b := !(decide (x347 < 0))) rfl (fun hc350 => ?_) (fun hc350 => ?_)
      · --
       have hp := cnd_t hc350 hp
       refine st_region [oF 0, oF 1, oF 2] (by rfl) ?_
       refine oR [oF 0, oF 1, oF 2] [(14, vI (IntKind.i64.wrap (x326 + 1))), (0, .slice (some ⟨g336, 0, none⟩) data.length c_data), (2, vI m), (4, .func (.func 52) #[] #[vP b_cmp_c0 0]), (15, vI i324)] [14, 0, 2, 4, 15] (by kernel_rfl) ?_
       refine ops_nil ?_
       refine fin_block ?_
       exact fin_again (IntKind.i64.wrap (x326 + 1), i324) () (Option.some.inj hp).symm h349 (look_has ⟨rfl, rfl, rfl, rfl, rfl, trivial⟩) (fun w_ hM => hM)
      · --
       have hp := cnd_f hc350 hp
       refine st_region [oF 0, oF 1] (by rfl) ?_
       refine oR [oF 0, oF 1] [(15, vI x326), (0, .slice (some ⟨g336, 0, none⟩) data.length c_data), (2, vI m), (4, .func (.func 52) #[] #[vP b_cmp_c0 0]), (14, vI i323)] [15, 0, 2, 4, 14] (by kernel_rfl) ?_
       refine ops_nil ?_
       refine fin_block ?_
       exact fin_again (i323, x326) () (Option.some.inj hp).symm h349 (look_has ⟨rfl, rfl, rfl, rfl, rfl, trivial⟩) (fun w_ hM => hM)
     · --
      have hp := cnd_f hc325 hp
      refine st_exit ?_
      refine fin_exit_then ?_
      refine fin_exit_then ?_
      refine fin_exit ?_
      obtain hq_ := Option.some.inj hp
      subst hq_
      obtain hq_ := hd10 _ rfl
      subst hq_
      have hp : (slices_symMergeCmpFunc_int_j6 data m) i323 = some l8001 := hk10
      exact fin_join HJ6 i323 ⟨hp, h322⟩ (look_has ⟨rfl, rfl, rfl, trivial⟩) (fun w_ hM => hM)
   · --
    have hp := cnd_f hc176 hp
    refine st_skip ?_
    refine fin_then ?_
    refine st_seq ?_
    refine st_region [oF 0, oF 1, oF 2, oF 3, oF 4, oF 5, oF 6] (by rfl) ?_
    refine oR [oF 0, oF 1, oF 2, oF 3, oF 4, oF 5, oF 6] [(18, vI (IntKind.i64.wrap (Int.fdiv (IntKind.u64.wrap (IntKind.i64.wrap (a + b))) 2))), (0, .slice A_data data.length c_data), (1, vI a), (2, vI m), (3, vI b), (4, .func (.func 52) #[] #[vP b_cmp_c0 0])] [18, 0, 1, 2, 3, 4] (by kernel_rfl) ?_
    obtain ⟨x351, hv352, hp⟩ := obind hp
    refine ops_conv (l' := [(18, vI x351), (0, .slice A_data data.length c_data), (1, vI a), (2, vI m), (3, vI b), (4, .func (.func 52) #[] #[vP b_cmp_c0 0])]) (by rw [← Option.some.inj hv352]) (fun _ h => h) ?_
    refine ops_nil ?_
    refine fin_then ?_
    refine st_seq ?_
    refine st_region [oF 0, oF 1, oF 2, oF 3] (by rfl) ?_
    refine oR [oF 0, oF 1, oF 2, oF 3] [(19, vI (IntKind.i64.wrap (x351 + m))), (18, vI x351), (0, .slice A_data data.length c_data), (1, vI a), (2, vI m), (3, vI b), (4, .func (.func 52) #[] #[vP b_cmp_c0 0])] [19, 18, 0, 1, 2, 3, 4] (by kernel_rfl) ?_
    refine ops_nil ?_
    refine fin_then ?_
    refine st_seq ?_
    refine st_region [oF 0, oF 1] (by rfl) ?_
    refine oR [oF 0, oF 1] [(19, vI (IntKind.i64.wrap (x351 + m))), (18, vI x351), (0, .slice A_data data.length c_data), (1, vI a), (2, vI m), (3, vI b), (4, .func (.func 52) #[] #[vP b_cmp_c0 0])] [19, 18, 0, 1, 2, 3, 4] (by kernel_rfl) ?_
    refine ops_nil ?_
    refine fin_then ?_
    refine st_join1 (σ := Int × Int) (L := fun x_ => match x_ with | (i353, i354) => [(0, .slice A_data data.length c_data), (1, vI a), (2, vI m), (3, vI b), (4, .func (.func 52) #[] #[vP b_cmp_c0 0]), (18, vI x351), (19, vI (IntKind.i64.wrap (x351 + m))), (20, vI i353), (21, vI i354)]) (N := fun x_ => match x_ with | (i353, i354) => Mem w0 (orow A_data data.length c_data 3 1 y_data :: .blk b_cmp_c0 [.slice A_cmp_c0_0 cmp_c0_0.length c_cmp_c0_0] 32 :: Fz F W :: cs)) (I := fun x_ => match x_ with | (i353, i354) => ((slices_symMergeCmpFunc_int_j11 x351 m data cmp_c0_0 a self_ b) i353 i354 = some l8001)) ?_ ?_
    · --
     rintro ⟨i353, i354⟩ hp
     refine st_conv (l' := [(0, .slice A_data data.length c_data), (1, vI a), (2, vI m), (3, vI b), (4, .func (.func 52) #[] #[vP b_cmp_c0 0]), (18, vI x351), (19, vI (IntKind.i64.wrap (x351 + m))), (20, vI i353), (21, vI i354)]) (M' := Mem w0 (orow A_data data.length c_data 3 1 y_data :: .blk b_cmp_c0 [.slice A_cmp_c0_0 cmp_c0_0.length c_cmp_c0_0] 32 :: Fz F W :: cs)) rfl (fun _ h => h) ?_
     unfold slices_symMergeCmpFunc_int_j11 at hp
     refine st_seq ?_
     refine st_region [oF 0, oF 1, oF 2] (by rfl) ?_
     refine oR [oF 0, oF 1, oF 2] [(22, vI (IntKind.i64.wrap (IntKind.i64.wrap (x351 + m) - 1))), (0, .slice A_data data.length c_data), (1, vI a), (2, vI m), (3, vI b), (4, .func (.func 52) #[] #[vP b_cmp_c0 0]), (18, vI x351), (19, vI (IntKind.i64.wrap (x351 + m))), (20, vI i353), (21, vI i354)] [22, 0, 1, 2, 3, 4, 18, 19, 20, 21] (by kernel_rfl) ?_
     refine ops_nil ?_
     refine fin_then ?_
     refine st_join1 (σ := Int) (L := fun x_ => match x_ with | i356 => [(0, .slice A_data data.length c_data), (1, vI a), (2, vI m), (3, vI b), (4, .func (.func 52) #[] #[vP b_cmp_c0 0]), (18, vI x351), (19, vI (IntKind.i64.wrap (x351 + m))), (20, vI i356)]) (N := fun x_ => match x_ with | i356 => Mem w0 (orow A_data data.length c_data 3 1 y_data :: .blk b_cmp_c0 [.slice A_cmp_c0_0 cmp_c0_0.length c_cmp_c0_0] 32 :: Fz F W :: cs)) (I := fun x_ => match x_ with | i356 => ((slices_symMergeCmpFunc_int_j12 m x351 data cmp_c0_0 a self_ b) i356 = some l8001) ∧ (RdS (Rep.int .i64) F W A_cmp_c0_0 c_cmp_c0_0 cmp_c0_0)) ?_ ?_
     · --
      rintro i356 ⟨hp, h355⟩
      refine st_conv (l' := [(0, .slice A_data data.length c_data), (1, vI a), (2, vI m), (3, vI b), (4, .func (.func 52) #[] #[vP b_cmp_c0 0]), (18, vI x351), (19, vI (IntKind.i64.wrap (x351 + m))), (20, vI i356)]) (M' := Mem w0 (orow A_data data.length c_data 3 1 y_data :: .blk b_cmp_c0 [.slice A_cmp_c0_0 cmp_c0_0.length c_cmp_c0_0] 32 :: Fz F W :: cs)) rfl (fun _ h => h) ?_
      unfold slices_symMergeCmpFunc_int_j12 at hp
      refine st_seq ?_
      refine st_region [oF 0, oF 1, oF 2, oF 3] (by rfl) ?_
      refine oR [oF 0, oF 1, oF 2, oF 3] [(24, vI (IntKind.i64.wrap (IntKind.i64.wrap (x351 + m) - i356))), (0, .slice A_data data.length c_data), (1, vI a), (2, vI m), (3, vI b), (4, .func (.func 52) #[] #[vP b_cmp_c0 0]), (18, vI x351), (20, vI i356)] [24, 0, 1, 2, 3, 4, 18, 20] (by kernel_rfl) ?_
      refine ops_nil ?_
      refine fin_then ?_
      refine st_join1 (σ := (List Int) × (List Value)) (L := fun x_ => match x_ with | (l357, y358) => [(0, .slice A_data l357.length c_data), (1, vI a), (3, vI b), (4, .func (.func 52) #[] #[vP b_cmp_c0 0]), (18, vI x351), (20, vI i356), (24, vI (IntKind.i64.wrap (IntKind.i64.wrap (x351 + m) - i356)))]) (N := fun x_ => match x_ with | (l357, y358) => Mem w0 (orow A_data l357.length c_data 3 1 y358 :: .blk b_cmp_c0 [.slice A_cmp_c0_0 cmp_c0_0.length c_cmp_c0_0] 32 :: Fz F W :: cs)) (I := fun x_ => match x_ with | (l357, y358) => ((slices_symMergeCmpFunc_int_j13 a i356 x351 self_ cmp_c0_0 m b) l357 = some l8001) ∧ (RepL (Rep.int .i64) F W l357 y358) ∧ (l357.length = data.length) ∧ (RdS (Rep.int .i64) F W A_cmp_c0_0 c_cmp_c0_0 cmp_c0_0)) ?_ ?_
      · --
       rintro ⟨l357, y358⟩ ⟨hp, h359, hl360, h361⟩
       refine st_conv (l' := [(0, .slice A_data l357.length c_data), (1, vI a), (3, vI b), (4, .func (.func 52) #[] #[vP b_cmp_c0 0]), (18, vI x351), (20, vI i356), (24, vI (IntKind.i64.wrap (IntKind.i64.wrap (x351 + m) - i356)))]) (M' := Mem w0 (orow A_data l357.length c_data 3 1 y358 :: .blk b_cmp_c0 [.slice A_cmp_c0_0 cmp_c0_0.length c_cmp_c0_0] 32 :: Fz F W :: cs)) rfl (fun _ h => h) ?_
       unfold slices_symMergeCmpFunc_int_j13 at hp
       refine st_join1 (σ := (List Int) × (List Value)) (L := fun x_ => match x_ with | (l362, y363) => [(0, .slice A_data l362.length c_data), (3, vI b), (4, .func (.func 52) #[] #[vP b_cmp_c0 0]), (18, vI x351), (24, vI (IntKind.i64.wrap (IntKind.i64.wrap (x351 + m) - i356)))]) (N := fun x_ => match x_ with | (l362, y363) => Mem w0 (orow A_data l362.length c_data 3 1 y363 :: .blk b_cmp_c0 [.slice A_cmp_c0_0 cmp_c0_0.length c_cmp_c0_0] 32 :: Fz F W :: cs)) (I := fun x_ => match x_ with | (l362, y363) => ((slices_symMergeCmpFunc_int_j14 x351 m i356 b self_ cmp_c0_0) l362 = some l8001) ∧ (RepL (Rep.int .i64) F W l362 y363) ∧ (l362.length = data.length)) ?_ ?_
       · --
        rintro ⟨l362, y363⟩ ⟨hp, h364, hl365⟩
        refine st_conv (l' := [(0, .slice A_data l362.length c_data), (3, vI b), (4, .func (.func 52) #[] #[vP b_cmp_c0 0]), (18, vI x351), (24, vI (IntKind.i64.wrap (IntKind.i64.wrap (x351 + m) - i356)))]) (M' := Mem w0 (orow A_data l362.length c_data 3 1 y363 :: .blk b_cmp_c0 [.slice A_cmp_c0_0 cmp_c0_0.length c_cmp_c0_0] 32 :: Fz F W :: cs)) rfl (fun _ h => h) ?_
        unfold slices_symMergeCmpFunc_int_j14 at hp
        refine st_seq ?_
        refine st_region [oF 0, oF 1, oF 2, oF 3, oF 4, oF 5, oF 6, oF 7] (by rfl) ?_
        refine oR [oF 0, oF 1, oF 2, oF 3] [(209, .bool (decide (x351 < IntKind.i64.wrap (IntKind.i64.wrap (x351 + m) - i356)))), (0, .slice A_data l362.length c_data), (3, vI b), (4, .func (.func 52) #[] #[vP b_cmp_c0 0]), (18, vI x351), (24, vI (IntKind.i64.wrap (IntKind.i64.wrap (x351 + m) - i356)))] [209, 0, 3, 4, 18, 24] (by kernel_rfl) ?_
        refine ops_bool (t := decide (x351 < IntKind.i64.wrap (IntKind.i64.wrap (x351 + m) - i356))) (l1 := [(209, .bool true), (0, .slice A_data l362.length c_data), (3, vI b), (4, .func (.func 52) #[] #[vP b_cmp_c0 0]), (18, vI x351), (24, vI (IntKind.i64.wrap (IntKind.i64.wrap (x351 + m) - i356)))]) (l2 := [(209, .bool false), (0, .slice A_data l362.length c_data), (3, vI b), (4, .func (.func 52) #[] #[vP b_cmp_c0 0]), (18, vI x351), (24, vI (IntKind.i64.wrap (IntKind.i64.wrap (x351 + m) - i356)))]) (fun h => by rw [h]) (fun h => by rw [h]) (fun hc366 => ?_) (fun hc366 => ?_)
        · --
         have hp := cnd_t hc366 hp
         refine oR [oF 4, oF 5, oF 6, oF 7] [(213, .bool (decide (IntKind.i64.wrap (IntKind.i64.wrap (x351 + m) - i356) < b))), (0, .slice A_data l362.length c_data), (3, vI b), (4, .func (.func 52) #[] #[vP b_cmp_c0 0]), (18, vI x351), (24, vI (IntKind.i64.wrap (IntKind.i64.wrap (x351 + m) - i356)))] [213, 0, 3, 4, 18, 24] (by kernel_rfl) ?_
         refine ops_nil ?_
         refine fin_then ?_
         refine st_if (b := decide (IntKind.i64.wrap (IntKind.i64.wrap (x351 + m) - i356) < b)) rfl (fun hc367 => ?_) (fun hc367 => ?_)
         · --
          have hp := cnd_t hc367 hp
          refine st_region [oF 0, oF 1, oF 2, oF 3, oF 4, oF 5] (by rfl) ?_
          refine oR [oF 0, oF 1, oF 2, oF 3, oF 4] [(218, .func (.func 52) #[] #[vP b_cmp_c0 0]), (217, vI b), (216, vI (IntKind.i64.wrap (IntKind.i64.wrap (x351 + m) - i356))), (215, vI x351), (214, .slice A_data l362.length c_data)] [218, 217, 216, 215, 214] (by kernel_rfl) ?_
          obtain ⟨x368, hv369, hp⟩ := obind hp
          rw [hself_] at hv369
          refine ops_callI (σ := (List Value)) (d := some 219) (f := 79) (args := #[.slice A_data l362.length c_data, vI x351, vI (IntKind.i64.wrap (IntKind.i64.wrap (x351 + m) - i356)), vI b, .func (.func 52) #[] #[vP b_cmp_c0 0]]) (v := (fun x_ => match x_ with | y370 => .tuple #[])) (I := (fun x_ => match x_ with | y370 => (RepL (Rep.int .i64) F W x368 y370) ∧ (x368.length = l362.length))) (M' := (fun x_ => match x_ with | y370 => Mem w0 (orow A_data x368.length c_data 3 1 y370 :: .blk b_cmp_c0 [.slice A_cmp_c0_0 cmp_c0_0.length c_cmp_c0_0] 32 :: Fz F W :: cs))) ⟨by kernel_rfl⟩ (fun w_ hM hS => (ih_ w0 w_ (cs) F W A_data c_data l362 y363 x351 (IntKind.i64.wrap (IntKind.i64.wrap (x351 + m) - i356)) b b_cmp_c0 A_cmp_c0_0 c_cmp_c0_0 cmp_c0_0 hM h364 h361 x368 hv369).mono (by rintro e w' ⟨y370, ⟨h371, h372⟩, rfl, h'⟩; have h' : Mem w0 (orow A_data x368.length c_data 3 1 y370 :: .blk b_cmp_c0 [.slice A_cmp_c0_0 cmp_c0_0.length c_cmp_c0_0] 32 :: Fz F W :: cs) w' := h'; exact ⟨y370, ⟨h371, h372⟩, rfl, h', trivial⟩)) ?_
          rintro y370 ⟨h371, h372⟩
          refine ops_conv (l' := [(219, .tuple #[]), (218, .func (.func 52) #[] #[vP b_cmp_c0 0]), (217, vI b), (216, vI (IntKind.i64.wrap (IntKind.i64.wrap (x351 + m) - i356))), (215, vI x351), (214, .slice A_data x368.length c_data)]) (M' := Mem w0 (orow A_data x368.length c_data 3 1 y370 :: .blk b_cmp_c0 [.slice A_cmp_c0_0 cmp_c0_0.length c_cmp_c0_0] 32 :: Fz F W :: cs)) (by first | rfl | (rw [h372]; done) | (rw [h372]; rfl)) (fun _ h => h) ?_
          refine oR [] [] [] (by kernel_rfl) ?_
          refine ops_nil ?_
          have hq_ := Option.some.inj hp
          have hr0_ := hq_
          subst hr0_
          refine fin_ret [] [] rfl rfl (fun w_ hM => .nil) (fun w_ hM => ?_)
          exact ⟨y370, ⟨h371, (h372.trans hl365)⟩, rfl, hM⟩
         · --
          have hp := cnd_f hc367 hp
          refine st_skip ?_
          have hq_ := Option.some.inj hp
          have hr0_ := hq_
          subst hr0_
          refine fin_ret [] [] rfl rfl (fun w_ hM => .nil) (fun w_ hM => ?_)
          exact ⟨y363, ⟨h364, hl365⟩, rfl, hM⟩
        · --
         have hp := cnd_f hc366 hp
         refine oR [oF 4, oF 5, oF 6, oF 7] [(213, .bool false), (0, .slice A_data l362.length c_data), (3, vI b), (4, .func (.func 52) #[] #[vP b_cmp_c0 0]), (18, vI x351), (24, vI (IntKind.i64.wrap (IntKind.i64.wrap (x351 + m) - i356)))] [213, 0, 3, 4, 18, 24] (by kernel_rfl) ?_
         refine ops_nil ?_
         refine fin_then ?_
         refine st_false rfl ?_
         refine st_skip ?_
         have hq_ := Option.some.inj hp
         have hr0_ := hq_
         subst hr0_
         refine fin_ret [] [] rfl rfl (fun w_ hM => .nil) (fun w_ hM => ?_)
         exact ⟨y363, ⟨h364, hl365⟩, rfl, hM⟩
       · --
        intro HJ14
        refine st_seq ?_
        refine st_seq ?_
        refine st_region [oF 0, oF 1, oF 2, oF 3, oF 4, oF 5, oF 6, oF 7] (by rfl) ?_
        refine oR [oF 0, oF 1, oF 2, oF 3] [(195, .bool (decide (a < i356))), (0, .slice A_data l357.length c_data), (1, vI a), (3, vI b), (4, .func (.func 52) #[] #[vP b_cmp_c0 0]), (18, vI x351), (20, vI i356), (24, vI (IntKind.i64.wrap (IntKind.i64.wrap (x351 + m) - i356)))] [195, 0, 1, 3, 4, 18, 20, 24] (by kernel_rfl) ?_
        refine ops_bool (t := decide (a < i356)) (l1 := [(195, .bool true), (0, .slice A_data l357.length c_data), (1, vI a), (3, vI b), (4, .func (.func 52) #[] #[vP b_cmp_c0 0]), (18, vI x351), (20, vI i356), (24, vI (IntKind.i64.wrap (IntKind.i64.wrap (x351 + m) - i356)))]) (l2 := [(195, .bool false), (0, .slice A_data l357.length c_data), (1, vI a), (3, vI b), (4, .func (.func 52) #[] #[vP b_cmp_c0 0]), (18, vI x351), (20, vI i356), (24, vI (IntKind.i64.wrap (IntKind.i64.wrap (x351 + m) - i356)))]) (fun h => by rw [h]) (fun h => by rw [h]) (fun hc373 => ?_) (fun hc373 => ?_)
        · --
         have hp := cnd_t hc373 hp
         refine oR [oF 4, oF 5, oF 6, oF 7] [(199, .bool (decide (i356 < x351))), (0, .slice A_data l357.length c_data), (1, vI a), (3, vI b), (4, .func (.func 52) #[] #[vP b_cmp_c0 0]), (18, vI x351), (20, vI i356), (24, vI (IntKind.i64.wrap (IntKind.i64.wrap (x351 + m) - i356)))] [199, 0, 1, 3, 4, 18, 20, 24] (by kernel_rfl) ?_
         refine ops_nil ?_
         refine fin_then ?_
         refine st_if (b := decide (i356 < x351)) rfl (fun hc374 => ?_) (fun hc374 => ?_)
         · --
          have hp := cnd_t hc374 hp
          refine st_region [oF 0, oF 1, oF 2, oF 3, oF 4, oF 5] (by rfl) ?_
          refine oR [oF 0, oF 1, oF 2, oF 3, oF 4] [(204, .func (.func 52) #[] #[vP b_cmp_c0 0]), (203, vI x351), (202, vI i356), (201, vI a), (200, .slice A_data l357.length c_data), (0, .slice A_data l357.length c_data), (3, vI b), (4, .func (.func 52) #[] #[vP b_cmp_c0 0]), (18, vI x351), (24, vI (IntKind.i64.wrap (IntKind.i64.wrap (x351 + m) - i356)))] [204, 203, 202, 201, 200, 0, 3, 4, 18, 24] (by kernel_rfl) ?_
          obtain ⟨x375, hv376, hp⟩ := obind hp
          rw [hself_] at hv376
          refine ops_callI (σ := (List Value)) (d := some 205) (f := 79) (args := #[.slice A_data l357.length c_data, vI a, vI i356, vI x351, .func (.func 52) #[] #[vP b_cmp_c0 0]]) (v := (fun x_ => match x_ with | y377 => .tuple #[])) (I := (fun x_ => match x_ with | y377 => (RepL (Rep.int .i64) F W x375 y377) ∧ (x375.length = l357.length))) (M' := (fun x_ => match x_ with | y377 => Mem w0 (orow A_data x375.length c_data 3 1 y377 :: .blk b_cmp_c0 [.slice A_cmp_c0_0 cmp_c0_0.length c_cmp_c0_0] 32 :: Fz F W :: cs))) ⟨by kernel_rfl⟩ (fun w_ hM hS => (ih_ w0 w_ (cs) F W A_data c_data l357 y358 a i356 x351 b_cmp_c0 A_cmp_c0_0 c_cmp_c0_0 cmp_c0_0 hM h359 h361 x375 hv376).mono (by rintro e w' ⟨y377, ⟨h378, h379⟩, rfl, h'⟩; have h' : Mem w0 (orow A_data x375.length c_data 3 1 y377 :: .blk b_cmp_c0 [.slice A_cmp_c0_0 cmp_c0_0.length c_cmp_c0_0] 32 :: Fz F W :: cs) w' := h'; exact ⟨y377, ⟨h378, h379⟩, rfl, h', trivial⟩)) ?_
          rintro y377 ⟨h378, h379⟩
          refine ops_conv (l' := [(205, .tuple #[]), (204, .func (.func 52) #[] #[vP b_cmp_c0 0]), (203, vI x351), (202, vI i356), (201, vI a), (200, .slice A_data x375.length c_data), (0, .slice A_data x375.length c_data), (3, vI b), (4, .func (.func 52) #[] #[vP b_cmp_c0 0]), (18, vI x351), (24, vI (IntKind.i64.wrap (IntKind.i64.wrap (x351 + m) - i356)))]) (M' := Mem w0 (orow A_data x375.length c_data 3 1 y377 :: .blk b_cmp_c0 [.slice A_cmp_c0_0 cmp_c0_0.length c_cmp_c0_0] 32 :: Fz F W :: cs)) (by first | rfl | (rw [h379]; done) | (rw [h379]; rfl)) (fun _ h => h) ?_
          refine oR [] [(0, .slice A_data x375.length c_data), (3, vI b), (4, .func (.func 52) #[] #[vP b_cmp_c0 0]), (18, vI x351), (24, vI (IntKind.i64.wrap (IntKind.i64.wrap (x351 + m) - i356)))] [0, 3, 4, 18, 24] (by kernel_rfl) ?_
          refine ops_nil ?_
          exact fin_join HJ14 (x375, y377) ⟨hp, h378, (h379.trans hl360)⟩ (look_has ⟨rfl, rfl, rfl, rfl, rfl, trivial⟩) (fun w_ hM => hM)
         · --
          have hp := cnd_f hc374 hp
          refine st_skip ?_
          exact fin_join HJ14 (l357, y358) ⟨hp, h359, hl360⟩ (look_has ⟨rfl, rfl, rfl, rfl, rfl, trivial⟩) (fun w_ hM => hM)
        · --
         have hp := cnd_f hc373 hp
         refine oR [oF 4, oF 5, oF 6, oF 7] [(199, .bool false), (0, .slice A_data l357.length c_data), (1, vI a), (3, vI b), (4, .func (.func 52) #[] #[vP b_cmp_c0 0]), (18, vI x351), (20, vI i356), (24, vI (IntKind.i64.wrap (IntKind.i64.wrap (x351 + m) - i356)))] [199, 0, 1, 3, 4, 18, 20, 24] (by kernel_rfl) ?_
         refine ops_nil ?_
         refine fin_then ?_
         refine st_false rfl ?_
         refine st_skip ?_
         exact fin_join HJ14 (l357, y358) ⟨hp, h359, hl360⟩ (look_has ⟨rfl, rfl, rfl, rfl, rfl, trivial⟩) (fun w_ hM => hM)
      · --
       intro HJ13
       refine st_seq ?_
       refine st_seq ?_
       refine st_region [oF 0, oF 1, oF 2, oF 3, oF 4, oF 5, oF 6, oF 7] (by rfl) ?_
       refine oR [oF 0, oF 1, oF 2, oF 3] [(181, .bool (decide (i356 < m))), (24, vI (IntKind.i64.wrap (IntKind.i64.wrap (x351 + m) - i356))), (0, .slice A_data data.length c_data), (1, vI a), (2, vI m), (3, vI b), (4, .func (.func 52) #[] #[vP b_cmp_c0 0]), (18, vI x351), (20, vI i356)] [181, 24, 0, 1, 2, 3, 4, 18, 20] (by kernel_rfl) ?_
       refine ops_bool (t := decide (i356 < m)) (l1 := [(181, .bool true), (24, vI (IntKind.i64.wrap (IntKind.i64.wrap (x351 + m) - i356))), (0, .slice A_data data.length c_data), (1, vI a), (2, vI m), (3, vI b), (4, .func (.func 52) #[] #[vP b_cmp_c0 0]), (18, vI x351), (20, vI i356)]) (l2 := [(181, .bool false), (24, vI (IntKind.i64.wrap (IntKind.i64.wrap (x351 + m) - i356))), (0, .slice A_data data.length c_data), (1, vI a), (2, vI m), (3, vI b), (4, .func (.func 52) #[] #[vP b_cmp_c0 0]), (18, vI x351), (20, vI i356)]) (fun h => by rw [h]) (fun h => by rw [h]) (fun hc380 => ?_) (fun hc380 => ?_)
       · --
        have hp := cnd_t hc380 hp
        refine oR [oF 4, oF 5, oF 6, oF 7] [(185, .bool (decide (m < IntKind.i64.wrap (IntKind.i64.wrap (x351 + m) - i356)))), (24, vI (IntKind.i64.wrap (IntKind.i64.wrap (x351 + m) - i356))), (0, .slice A_data data.length c_data), (1, vI a), (2, vI m), (3, vI b), (4, .func (.func 52) #[] #[vP b_cmp_c0 0]), (18, vI x351), (20, vI i356)] [185, 24, 0, 1, 2, 3, 4, 18, 20] (by kernel_rfl) ?_
        refine ops_nil ?_
        refine fin_then ?_
        refine st_if (b := decide (m < IntKind.i64.wrap (IntKind.i64.wrap (x351 + m) - i356))) rfl (fun hc381 => ?_) (fun hc381 => ?_)
        · --
         have hp := cnd_t hc381 hp
         refine st_region [oF 0, oF 1, oF 2, oF 3, oF 4, oF 5] (by rfl) ?_
         refine oR [oF 0, oF 1, oF 2, oF 3, oF 4] [(190, .func (.func 52) #[] #[vP b_cmp_c0 0]), (189, vI (IntKind.i64.wrap (IntKind.i64.wrap (x351 + m) - i356))), (188, vI m), (187, vI i356), (186, .slice A_data data.length c_data), (24, vI (IntKind.i64.wrap (IntKind.i64.wrap (x351 + m) - i356))), (0, .slice A_data data.length c_data), (1, vI a), (3, vI b), (4, .func (.func 52) #[] #[vP b_cmp_c0 0]), (18, vI x351), (20, vI i356)] [190, 189, 188, 187, 186, 24, 0, 1, 3, 4, 18, 20] (by kernel_rfl) ?_
         obtain ⟨x382, hv383, hp⟩ := obind hp
         refine ops_callI (σ := (List Value)) (d := some 191) (f := 81) (args := #[.slice A_data data.length c_data, vI i356, vI m, vI (IntKind.i64.wrap (IntKind.i64.wrap (x351 + m) - i356)), .func (.func 52) #[] #[vP b_cmp_c0 0]]) (v := (fun x_ => match x_ with | y384 => .tuple #[])) (I := (fun x_ => match x_ with | y384 => (RepL (Rep.int .i64) F W x382 y384) ∧ (x382.length = data.length) ∧ (RdS (Rep.int .i64) F W A_cmp_c0_0 c_cmp_c0_0 cmp_c0_0))) (M' := (fun x_ => match x_ with | y384 => Mem w0 (orow A_data x382.length c_data 3 1 y384 :: .blk b_cmp_c0 [.slice A_cmp_c0_0 cmp_c0_0.length c_cmp_c0_0] 32 :: Fz F W :: cs))) ⟨by kernel_rfl⟩ (fun w_ hM hS => (slices_rotateCmpFunc_int_ok w0 w_ (cs) F W A_data c_data data y_data i356 m (IntKind.i64.wrap (IntKind.i64.wrap (x351 + m) - i356)) b_cmp_c0 A_cmp_c0_0 c_cmp_c0_0 cmp_c0_0 hM h_data h355 x382 hv383).mono (by rintro e w' ⟨y384, ⟨h385, h386, h387⟩, rfl, h'⟩; have h' : Mem w0 (orow A_data x382.length c_data 3 1 y384 :: .blk b_cmp_c0 [.slice A_cmp_c0_0 cmp_c0_0.length c_cmp_c0_0] 32 :: Fz F W :: cs) w' := h'; exact ⟨y384, ⟨h385, h386, h387⟩, rfl, h', trivial⟩)) ?_
         rintro y384 ⟨h385, h386, h387⟩
         refine ops_conv (l' := [(191, .tuple #[]), (190, .func (.func 52) #[] #[vP b_cmp_c0 0]), (189, vI (IntKind.i64.wrap (IntKind.i64.wrap (x351 + m) - i356))), (188, vI m), (187, vI i356), (186, .slice A_data x382.length c_data), (24, vI (IntKind.i64.wrap (IntKind.i64.wrap (x351 + m) - i356))), (0, .slice A_data x382.length c_data), (1, vI a), (3, vI b), (4, .func (.func 52) #[] #[vP b_cmp_c0 0]), (18, vI x351), (20, vI i356)]) (M' := Mem w0 (orow A_data x382.length c_data 3 1 y384 :: .blk b_cmp_c0 [.slice A_cmp_c0_0 cmp_c0_0.length c_cmp_c0_0] 32 :: Fz F W :: cs)) (by first | rfl | (rw [h386]; done) | (rw [h386]; rfl)) (fun _ h => h) ?_
         refine oR [] [(24, vI (IntKind.i64.wrap (IntKind.i64.wrap (x351 + m) - i356))), (0, .slice A_data x382.length c_data), (1, vI a), (3, vI b), (4, .func (.func 52) #[] #[vP b_cmp_c0 0]), (18, vI x351), (20, vI i356)] [24, 0, 1, 3, 4, 18, 20] (by kernel_rfl) ?_
         refine ops_nil ?_
         exact fin_join HJ13 (x382, y384) ⟨hp, h385, h386, h387⟩ (look_has ⟨rfl, rfl, rfl, rfl, rfl, rfl, rfl, trivial⟩) (fun w_ hM => hM)
        · --
         have hp := cnd_f hc381 hp
         refine st_skip ?_
         exact fin_join HJ13 (data, y_data) ⟨hp, h_data, rfl, h355⟩ (look_has ⟨rfl, rfl, rfl, rfl, rfl, rfl, rfl, trivial⟩) (fun w_ hM => hM)
       · --
        have hp := cnd_f hc380 hp
        refine oR [oF 4, oF 5, oF 6, oF 7] [(185, .bool false), (24, vI (IntKind.i64.wrap (IntKind.i64.wrap (x351 + m) - i356))), (0, .slice A_data data.length c_data), (1, vI a), (2, vI m), (3, vI b), (4, .func (.func 52) #[] #[vP b_cmp_c0 0]), (18, vI x351), (20, vI i356)] [185, 24, 0, 1, 2, 3, 4, 18, 20] (by kernel_rfl) ?_
        refine ops_nil ?_
        refine fin_then ?_
        refine st_false rfl ?_
        refine st_skip ?_
        exact fin_join HJ13 (data, y_data) ⟨hp, h_data, rfl, h355⟩ (look_has ⟨rfl, rfl, rfl, rfl, rfl, rfl, rfl, trivial⟩) (fun w_ hM => hM)
     · --
      intro HJ12
      refine st_seq ?_
      refine st_block ?_
      obtain ⟨r15, hl15, hk15⟩ := obind hp
      refine st_loopP (σ := Int × Int) (ρ := Int) (γ := Unit) hl15 () (fun s_ g_ => match s_, g_ with | (i389, i390), _ => [(0, .slice A_data data.length c_data), (1, vI a), (2, vI m), (3, vI b), (4, .func (.func 52) #[] #[vP b_cmp_c0 0]), (18, vI x351), (19, vI (IntKind.i64.wrap (x351 + m))), (20, vI i389), (21, vI i390), (22, vI (IntKind.i64.wrap (IntKind.i64.wrap (x351 + m) - 1)))]) (fun s_ g_ => match s_, g_ with | (i389, i390), _ => Mem w0 (orow A_data data.length c_data 3 1 y_data :: .blk b_cmp_c0 [.slice A_cmp_c0_0 cmp_c0_0.length c_cmp_c0_0] 32 :: Fz F W :: cs)) (fun s_ g_ => match s_, g_ with | (i389, i390), _ => (RdS (Rep.int .i64) F W A_cmp_c0_0 c_cmp_c0_0 cmp_c0_0)) h_cmp_c0_0 (look_has ⟨rfl, rfl, rfl, rfl, rfl, rfl, rfl, rfl, rfl, rfl, trivial⟩) (fun w_ hM => hM) ?_
      rintro ⟨i389, i390⟩ _ o15 h388 hs_ hd15
      have hp : (slices_symMergeCmpFunc_int_l15 x351 m data cmp_c0_0) i389 i390 = some o15 := hs_
      clear hs_
      unfold slices_symMergeCmpFunc_int_l15 at hp
      refine st_conv (l' := [(0, .slice A_data data.length c_data), (1, vI a), (2, vI m), (3, vI b), (4, .func (.func 52) #[] #[vP b_cmp_c0 0]), (18, vI x351), (19, vI (IntKind.i64.wrap (x351 + m))), (20, vI i389), (21, vI i390), (22, vI (IntKind.i64.wrap (IntKind.i64.wrap (x351 + m) - 1)))]) (M' := Mem w0 (orow A_data data.length c_data 3 1 y_data :: .blk b_cmp_c0 [.slice A_cmp_c0_0 cmp_c0_0.length c_cmp_c0_0] 32 :: Fz F W :: cs)) rfl (fun _ h => h) ?_
      refine st_seq ?_
      refine st_seq ?_
      refine st_region [oF 0, oF 1, oF 2] (by rfl) ?_
      refine oR [oF 0, oF 1, oF 2] [(151, .bool (decide (i389 < i390))), (0, .slice A_data data.length c_data), (1, vI a), (2, vI m), (3, vI b), (4, .func (.func 52) #[] #[vP b_cmp_c0 0]), (18, vI x351), (19, vI (IntKind.i64.wrap (x351 + m))), (20, vI i389), (21, vI i390), (22, vI (IntKind.i64.wrap (IntKind.i64.wrap (x351 + m) - 1)))] [151, 0, 1, 2, 3, 4, 18, 19, 20, 21, 22] (by kernel_rfl) ?_
      refine ops_nil ?_
      refine fin_then ?_
      refine st_if (b := decide (i389 < i390)) rfl (fun hc391 => ?_) (fun hc391 => ?_)
      · --
       have hp := cnd_t hc391 hp
       refine st_skip ?_
       refine fin_then ?_
       refine st_block ?_
       refine st_seq ?_
       refine st_region [oF 0, oF 1, oF 2, oF 3, oF 4, oF 5, oF 6] (by rfl) ?_
       refine oR [oF 0, oF 1, oF 2, oF 3, oF 4, oF 5, oF 6] [(23, vI (IntKind.i64.wrap (Int.fdiv (IntKind.u64.wrap (IntKind.i64.wrap (i389 + i390))) 2))), (0, .slice A_data data.length c_data), (1, vI a), (2, vI m), (3, vI b), (4, .func (.func 52) #[] #[vP b_cmp_c0 0]), (18, vI x351), (19, vI (IntKind.i64.wrap (x351 + m))), (20, vI i389), (21, vI i390), (22, vI (IntKind.i64.wrap (IntKind.i64.wrap (x351 + m) - 1)))] [23, 0, 1, 2, 3, 4, 18, 19, 20, 21, 22] (by kernel_rfl) ?_
       obtain ⟨x392, hv393, hp⟩ := obind hp
       refine ops_conv (l' := [(23, vI x392), (0, .slice A_data data.length c_data), (1, vI a), (2, vI m), (3, vI b), (4, .func (.func 52) #[] #[vP b_cmp_c0 0]), (18, vI x351), (19, vI (IntKind.i64.wrap (x351 + m))), (20, vI i389), (21, vI i390), (22, vI (IntKind.i64.wrap (IntKind.i64.wrap (x351 + m) - 1)))]) (by rw [← Option.some.inj hv393]) (fun _ h => h) ?_
       refine ops_nil ?_
       refine fin_then ?_
       refine st_seq ?_
       refine st_region_fast slices_symMergeCmpFunc_int__t0 [oT 0, oT 1, oT 2, oT 3, oT 4, oT 5, oT 6, oT 7, oT 8, oT 9, oT 10, oF 11, oT 12, oT 13] (Mem w0 (orow A_data data.length c_data 3 1 y_data :: .blk b_cmp_c0 [.slice A_cmp_c0_0 cmp_c0_0.length c_cmp_c0_0] 32 :: Fz F W :: cs)) (by kernel_rfl) (by kernel_rfl) (by kernel_rfl) (by kernel_rfl) (by kernel_rfl) (fun _ d _ _ _ h => by cases d <;> exact h) (M' := Mem w0 (orow A_data data.length c_data 3 1 y_data :: .blk b_cmp_c0 [.slice A_cmp_c0_0 cmp_c0_0.length c_cmp_c0_0] 32 :: Fz F W :: cs)) (fun w_ hM => ⟨hM.drew, hM.drew.sub (.cons_cons _ (.cons_cons _ (.cons_cons _ (.refl _))))⟩) ?_
       refine oR [oT 0, oT 1, oT 2, oT 3, oT 4] [(162, vI (IntKind.i64.wrap (IntKind.i64.wrap (IntKind.i64.wrap (x351 + m) - 1) - x392))), (159, .slice A_data data.length c_data), (158, .func (.func 52) #[] #[vP b_cmp_c0 0]), (23, vI x392), (0, .slice A_data data.length c_data), (1, vI a), (2, vI m), (3, vI b), (4, .func (.func 52) #[] #[vP b_cmp_c0 0]), (18, vI x351), (19, vI (IntKind.i64.wrap (x351 + m))), (20, vI i389), (21, vI i390), (22, vI (IntKind.i64.wrap (IntKind.i64.wrap (x351 + m) - 1)))] [162, 159, 158, 23, 0, 1, 2, 3, 4, 18, 19, 20, 21, 22] (by kernel_rfl) ?_
       obtain ⟨x394, hv395, hp⟩ := obind hp
       refine ops_conv (l' := [(162, vI x394), (159, .slice A_data data.length c_data), (158, .func (.func 52) #[] #[vP b_cmp_c0 0]), (23, vI x392), (0, .slice A_data data.length c_data), (1, vI a), (2, vI m), (3, vI b), (4, .func (.func 52) #[] #[vP b_cmp_c0 0]), (18, vI x351), (19, vI (IntKind.i64.wrap (x351 + m))), (20, vI i389), (21, vI i390), (22, vI (IntKind.i64.wrap (IntKind.i64.wrap (x351 + m) - 1)))]) (by rw [← Option.some.inj hv395]) (fun _ h => h) ?_
       obtain ⟨x396, hv397, hp⟩ := obind hp
       obtain ⟨m398, hm399, hx400⟩ := idx_some hv397
       have hl403 := (List.getElem?_eq_some_iff.1 hx400).1
       refine ops_fact (fun w_ hM => hM.orowSome 0 rfl (Nat.lt_of_le_of_lt (Nat.zero_le _) hl403)) ?_
       rintro ⟨g404, rfl, -⟩
       obtain ⟨vs401, hr402, hq405⟩ := h_data.at_ m398 x396 hx400
       obtain rfl := hr402
       refine ops_val (op := (Go.Op.indexAddr 32 (Go.Operand.tmp 159) (Go.Operand.tmp 162))) (d := some 163) (v := vP g404 (m398 * 1)) ⟨by kernel_rfl⟩ (run_indexRow Try.underlying32 (z := 1) (by kernel_rfl) rfl rfl hm399 hl403 rfl) ?_
       refine oR [] [(163, vP g404 (m398 * 1)), (158, .func (.func 52) #[] #[vP b_cmp_c0 0]), (23, vI x392), (0, .slice (some ⟨g404, 0, none⟩) data.length c_data), (1, vI a), (2, vI m), (3, vI b), (4, .func (.func 52) #[] #[vP b_cmp_c0 0]), (18, vI x351), (19, vI (IntKind.i64.wrap (x351 + m))), (20, vI i389), (21, vI i390), (22, vI (IntKind.i64.wrap (IntKind.i64.wrap (x351 + m) - 1)))] [163, 158, 23, 0, 1, 2, 3, 4, 18, 19, 20, 21, 22] (by kernel_rfl) ?_
       refine ops_load (d := some 164) (an := [.v (vI x396)]) (evs := [.load ⟨g404, m398 * 1, none⟩ (vI x396)]) (v := vI x396) ⟨by kernel_rfl⟩ (fun w_ hM => ⟨hM.ocell 0 rfl (hq405 0 _ rfl), rfl⟩) ?_
       refine oR [oT 7, oT 8] [(166, vI x392), (165, .slice (some ⟨g404, 0, none⟩) data.length c_data), (164, vI x396), (158, .func (.func 52) #[] #[vP b_cmp_c0 0]), (23, vI x392), (0, .slice (some ⟨g404, 0, none⟩) data.length c_data), (1, vI a), (2, vI m), (3, vI b), (4, .func (.func 52) #[] #[vP b_cmp_c0 0]), (18, vI x351), (19, vI (IntKind.i64.wrap (x351 + m))), (20, vI i389), (21, vI i390), (22, vI (IntKind.i64.wrap (IntKind.i64.wrap (x351 + m) - 1)))] [166, 165, 164, 158, 23, 0, 1, 2, 3, 4, 18, 19, 20, 21, 22] (by kernel_rfl) ?_
       obtain ⟨x406, hv407, hp⟩ := obind hp
       obtain ⟨m408, hm409, hx410⟩ := idx_some hv407
       have hl413 := (List.getElem?_eq_some_iff.1 hx410).1
       obtain ⟨vs411, hr412, hq414⟩ := h_data.at_ m408 x406 hx410
       obtain rfl := hr412
       refine ops_val (op := (Go.Op.indexAddr 32 (Go.Operand.tmp 165) (Go.Operand.tmp 166))) (d := some 167) (v := vP g404 (m408 * 1)) ⟨by kernel_rfl⟩ (run_indexRow Try.underlying32 (z := 1) (by kernel_rfl) rfl rfl hm409 hl413 rfl) ?_
       refine oR [] [(167, vP g404 (m408 * 1)), (164, vI x396), (158, .func (.func 52) #[] #[vP b_cmp_c0 0]), (23, vI x392), (0, .slice (some ⟨g404, 0, none⟩) data.length c_data), (1, vI a), (2, vI m), (3, vI b), (4, .func (.func 52) #[] #[vP b_cmp_c0 0]), (18, vI x351), (19, vI (IntKind.i64.wrap (x351 + m))), (20, vI i389), (21, vI i390), (22, vI (IntKind.i64.wrap (IntKind.i64.wrap (x351 + m) - 1)))] [167, 164, 158, 23, 0, 1, 2, 3, 4, 18, 19, 20, 21, 22] (by kernel_rfl) ?_
       refine ops_load (d := some 168) (an := [.v (vI x406)]) (evs := [.load ⟨g404, m408 * 1, none⟩ (vI x406)]) (v := vI x406) ⟨by kernel_rfl⟩ (fun w_ hM => ⟨hM.ocell 0 rfl (hq414 0 _ rfl), rfl⟩) ?_
       refine oR [] [(168, vI x406), (164, vI x396), (158, .func (.func 52) #[] #[vP b_cmp_c0 0]), (23, vI x392), (0, .slice (some ⟨g404, 0, none⟩) data.length c_data), (1, vI a), (2, vI m), (3, vI b), (4, .func (.func 52) #[] #[vP b_cmp_c0 0]), (18, vI x351), (19, vI (IntKind.i64.wrap (x351 + m))), (20, vI i389), (21, vI i390), (22, vI (IntKind.i64.wrap (IntKind.i64.wrap (x351 + m) - 1)))] [168, 164, 158, 23, 0, 1, 2, 3, 4, 18, 19, 20, 21, 22] (by kernel_rfl) ?_
       obtain ⟨x415, hv416, hp⟩ := obind hp
       refine ops_callI (σ := Unit) (d := some 169) (f := 52) (args := #[vI x396, vI x406, vP b_cmp_c0 0]) (v := (fun _ => vI x415)) (I := (fun _ => (RdS (Rep.int .i64) F W A_cmp_c0_0 c_cmp_c0_0 cmp_c0_0))) (M' := (fun _ => Mem w0 (orow (some ⟨g404, 0, none⟩) data.length c_data 3 1 y_data :: .blk b_cmp_c0 [.slice A_cmp_c0_0 cmp_c0_0.length c_cmp_c0_0] 32 :: Fz F W :: cs))) ⟨by kernel_rfl⟩ (fun w_ hM hS => (tourlaw1_QueueSorts_1_ok w0 w_ (orow (some ⟨g404, 0, none⟩) data.length c_data 3 1 y_data :: cs) F W x396 x406 b_cmp_c0 A_cmp_c0_0 c_cmp_c0_0 cmp_c0_0 (hM.pick 3 [1, 2, 0] (by kernel_rfl) (by decide) rfl) h388 x415 hv416).mono (by rintro e w' ⟨h417, rfl, h'⟩; have h' : Mem w0 (orow (some ⟨g404, 0, none⟩) data.length c_data 3 1 y_data :: .blk b_cmp_c0 [.slice A_cmp_c0_0 cmp_c0_0.length c_cmp_c0_0] 32 :: Fz F W :: cs) w' := (h'.pick 3 [2, 0, 1] (by kernel_rfl) (by decide) rfl); exact ⟨(), h417, rfl, h', (by exact h'.sub (.cons_cons _ (.cons_cons _ (.cons_cons _ (.refl _)))))⟩)) ?_
       rintro _ h417
       refine ops_conv (l' := [(169, vI x415), (168, vI x406), (164, vI x396), (158, .func (.func 52) #[] #[vP b_cmp_c0 0]), (23, vI x392), (0, .slice (some ⟨g404, 0, none⟩) data.length c_data), (1, vI a), (2, vI m), (3, vI b), (4, .func (.func 52) #[] #[vP b_cmp_c0 0]), (18, vI x351), (19, vI (IntKind.i64.wrap (x351 + m))), (20, vI i389), (21, vI i390), (22, vI (IntKind.i64.wrap (IntKind.i64.wrap (x351 + m) - 1)))]) (M' := Mem w0 (orow (some ⟨g404, 0, none⟩) data.length c_data 3 1 y_data :: .blk b_cmp_c0 [.slice A_cmp_c0_0 cmp_c0_0.length c_cmp_c0_0] 32 :: Fz F W :: cs)) rfl (fun _ h => h) ?_
       refine oR [oT 12, oT 13] [(171, .bool (!(decide (x415 < 0)))), (23, vI x392), (0, .slice (some ⟨g404, 0, none⟩) data.length c_data), (1, vI a), (2, vI m), (3, vI b), (4, .func (.func 52) #[] #[vP b_cmp_c0 0]), (18, vI x351), (19, vI (IntKind.i64.wrap (x351 + m))), (20, vI i389), (21, vI i390), (22, vI (IntKind.i64.wrap (IntKind.i64.wrap (x351 + m) - 1)))] [171, 23, 0, 1, 2, 3, 4, 18, 19, 20, 21, 22] (by kernel_rfl) ?_
       refine ops_nil ?_
       refine fin_then ?_
       refine st_if (b := !(decide (x415 < 0))) rfl (fun hc418 => ?_) (fun hc418 => ?_)
       · --
        have hp := cnd_t hc418 hp
        refine st_region [oF 0, oF 1, oF 2] (by rfl) ?_
        refine oR [oF 0, oF 1, oF 2] [(20, vI (IntKind.i64.wrap (x392 + 1))), (0, .slice (some ⟨g404, 0, none⟩) data.length c_data), (1, vI a), (2, vI m), (3, vI b), (4, .func (.func 52) #[] #[vP b_cmp_c0 0]), (18, vI x351), (19, vI (IntKind.i64.wrap (x351 + m))), (21, vI i390), (22, vI (IntKind.i64.wrap (IntKind.i64.wrap (x351 + m) - 1)))] [20, 0, 1, 2, 3, 4, 18, 19, 21, 22] (by kernel_rfl) ?_
        refine ops_nil ?_
        refine fin_block ?_
        exact fin_again (IntKind.i64.wrap (x392 + 1), i390) () (Option.some.inj hp).symm h417 (look_has ⟨rfl, rfl, rfl, rfl, rfl, rfl, rfl, rfl, rfl, rfl, trivial⟩) (fun w_ hM => hM)
       · --
        have hp := cnd_f hc418 hp
        refine st_region [oF 0, oF 1] (by rfl) ?_
        refine oR [oF 0, oF 1] [(21, vI x392), (0, .slice (some ⟨g404, 0, none⟩) data.length c_data), (1, vI a), (2, vI m), (3, vI b), (4, .func (.func 52) #[] #[vP b_cmp_c0 0]), (18, vI x351), (19, vI (IntKind.i64.wrap (x351 + m))), (20, vI i389), (22, vI (IntKind.i64.wrap (IntKind.i64.wrap (x351 + m) - 1)))] [21, 0, 1, 2, 3, 4, 18, 19, 20, 22] (by kernel_rfl) ?_
        refine ops_nil ?_
        refine fin_block ?_
        exact fin_again (i389, x392) () (Option.some.inj hp).symm h417 (look_has ⟨rfl, rfl, rfl, rfl, rfl, rfl, rfl, rfl, rfl, rfl, trivial⟩) (fun w_ hM => hM)
      · --
       have hp := cnd_f hc391 hp
       refine st_exit ?_
       refine fin_exit_then ?_
       refine fin_exit_then ?_
       refine fin_exit ?_
       obtain hq_ := Option.some.inj hp
       subst hq_
       obtain hq_ := hd15 _ rfl
       subst hq_
       have hp : (slices_symMergeCmpFunc_int_j12 m x351 data cmp_c0_0 a self_ b) i389 = some l8001 := hk15
       exact fin_join HJ12 i389 ⟨hp, h388⟩ (look_has ⟨rfl, rfl, rfl, rfl, rfl, rfl, rfl, rfl, trivial⟩) (fun w_ hM => hM)
    · --
     intro HJ11
     refine st_seq ?_
     refine st_seq ?_
     refine st_region [oF 0, oF 1, oF 2] (by rfl) ?_
     refine oR [oF 0, oF 1, oF 2] [(140, .bool (decide (x351 < m))), (19, vI (IntKind.i64.wrap (x351 + m))), (18, vI x351), (0, .slice A_data data.length c_data), (1, vI a), (2, vI m), (3, vI b), (4, .func (.func 52) #[] #[vP b_cmp_c0 0])] [140, 19, 18, 0, 1, 2, 3, 4] (by kernel_rfl) ?_
     refine ops_nil ?_
     refine fin_then ?_
     refine st_if (b := decide (x351 < m)) rfl (fun hc419 => ?_) (fun hc419 => ?_)
     · --
      have hp := cnd_t hc419 hp
      refine st_seq ?_
      refine st_region [oF 0, oF 1, oF 2, oF 3] (by rfl) ?_
      refine oR [oF 0, oF 1, oF 2, oF 3] [(20, vI (IntKind.i64.wrap (IntKind.i64.wrap (x351 + m) - b))), (19, vI (IntKind.i64.wrap (x351 + m))), (18, vI x351), (0, .slice A_data data.length c_data), (1, vI a), (2, vI m), (3, vI b), (4, .func (.func 52) #[] #[vP b_cmp_c0 0])] [20, 19, 18, 0, 1, 2, 3, 4] (by kernel_rfl) ?_
      refine ops_nil ?_
      refine fin_then ?_
      refine st_region [oF 0, oF 1] (by rfl) ?_
      refine oR [oF 0, oF 1] [(21, vI x351), (20, vI (IntKind.i64.wrap (IntKind.i64.wrap (x351 + m) - b))), (19, vI (IntKind.i64.wrap (x351 + m))), (18, vI x351), (0, .slice A_data data.length c_data), (1, vI a), (2, vI m), (3, vI b), (4, .func (.func 52) #[] #[vP b_cmp_c0 0])] [21, 20, 19, 18, 0, 1, 2, 3, 4] (by kernel_rfl) ?_
      refine ops_nil ?_
      exact fin_join HJ11 (IntKind.i64.wrap (IntKind.i64.wrap (x351 + m) - b), x351) hp (look_has ⟨rfl, rfl, rfl, rfl, rfl, rfl, rfl, rfl, rfl, trivial⟩) (fun w_ hM => hM)
     · --
      have hp := cnd_f hc419 hp
      refine st_seq ?_
      refine st_region [oF 0, oF 1] (by rfl) ?_
      refine oR [oF 0, oF 1] [(20, vI a), (19, vI (IntKind.i64.wrap (x351 + m))), (18, vI x351), (0, .slice A_data data.length c_data), (1, vI a), (2, vI m), (3, vI b), (4, .func (.func 52) #[] #[vP b_cmp_c0 0])] [20, 19, 18, 0, 1, 2, 3, 4] (by kernel_rfl) ?_
      refine ops_nil ?_
      refine fin_then ?_
      refine st_region [oF 0, oF 1] (by rfl) ?_
      refine oR [oF 0, oF 1] [(21, vI m), (20, vI a), (19, vI (IntKind.i64.wrap (x351 + m))), (18, vI x351), (0, .slice A_data data.length c_data), (1, vI a), (2, vI m), (3, vI b), (4, .func (.func 52) #[] #[vP b_cmp_c0 0])] [21, 20, 19, 18, 0, 1, 2, 3, 4] (by kernel_rfl) ?_
      refine ops_nil ?_
      exact fin_join HJ11 (a, m) hp (look_has ⟨rfl, rfl, rfl, rfl, rfl, rfl, rfl, rfl, rfl, trivial⟩) (fun w_ hM => hM)
theorem slices_symMergeCmpFunc_int_ok (w0 w : World) (cs : List Chunk) (F : Nat → Prop) (W : World) (A_data : Option Addr) (c_data : Nat) (data : List Int) (y_data : List Value) (a : Int) (m : Int) (b : Int) (b_cmp_c0 : Nat) (A_cmp_c0_0 : Option Addr) (c_cmp_c0_0 : Nat) (cmp_c0_0 : List Int) (hM0 : Mem w0 (orow A_data data.length c_data 3 1 y_data :: .blk b_cmp_c0 [.slice A_cmp_c0_0 cmp_c0_0.length c_cmp_c0_0] 32 :: Fz F W :: cs) w) (h_data : RepL (Rep.int .i64) F W data y_data) (h_cmp_c0_0 : RdS (Rep.int .i64) F W A_cmp_c0_0 c_cmp_c0_0 cmp_c0_0) (l8001 : List Int) (hp : slices_symMergeCmpFunc_int data a m b cmp_c0_0 = some l8001) : Calls Try.prog 79 #[.slice A_data data.length c_data, vI a, vI m, vI b, .func (.func 52) #[] #[vP b_cmp_c0 0]] w fun e w' => ∃ (y8002 : List Value), ((RepL (Rep.int .i64) F W l8001 y8002) ∧ (l8001.length = data.length)) ∧ e = .returned (.tuple #[]) ∧ Mem w0 (orow A_data l8001.length c_data 3 1 y8002 :: .blk b_cmp_c0 [.slice A_cmp_c0_0 cmp_c0_0.length c_cmp_c0_0] 32 :: Fz F W :: cs) w' := by
 obtain ⟨k_, hk_⟩ := fix_some hp
 exact slices_symMergeCmpFunc_int_okK k_ w0 w cs F W A_data c_data data y_data a m b b_cmp_c0 A_cmp_c0_0 c_cmp_c0_0 cmp_c0_0 hM0 h_data h_cmp_c0_0 l8001 hk_
end Go.Proofs.Ytnognpmkhkkkeaa.X
