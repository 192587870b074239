/- The Go functions come to what the plain functions tell. No condition. -/
import Derived.Test.YthcbepikeinglaaDoorProg
import Derived.Test.YthcbepikeinglaaDoorFnN
import Derived.Test.YthcbepikeinglaaDoorWkN1
import Derived.Test.YthcbepikeinglaaDoorWkN2
import Derived.Test.YthcbepikeinglaaDoorWkN3
import Derived.Test.YthcbepikeinglaaDoorWkN4
import Derived.Test.YthcbepikeinglaaDoorWkN7
import Derived.Test.YthcbepikeinglaaDoorWkN8
import Derived.Test.YthcbepikeinglaaDoorWkN9
import Derived.Test.YthcbepikeinglaaDoorWkN11
import Derived.Test.YthcbepikeinglaaDoorWkN12
import Derived.Test.YthcbepikeinglaaDoorExMap
namespace Go.Proofs.YthcbepikeinglaaDoor.N
open Go Go.RowKit Go.Proofs.YthcbepikeinglaaDoor.Sx
set_option linter.unusedVariables false
set_option maxHeartbeats 4000000
set_option maxRecDepth 100000
theorem sum_Ints_ok (w0 w : World) (cs : List Chunk) (F : Nat → Prop) (W : World) (A_l : Option Addr) (c_l : Nat) (l : List Int) (hM0 : Mem w0 (Fz F W :: cs) w) (h_l : RdS (Rep.int .i64) F W A_l c_l l) (i9001 : Int) (hp : sum_Ints l = some i9001) : Calls Tryd.prog 53 #[sl A_l l c_l] w fun e w' => (True) ∧ e = .returned (vU i9001) ∧ Mem w0 (Fz F W :: cs) w' := by
 unfold sum_Ints at hp
 refine sx_calls Tryd.func53 rfl (n := 24) (by kernel_rfl) (l := [(0, sl A_l l c_l)]) rfl (by rfl) hM0 ?_
 refine st_seq (st_region [oF 0] (by rfl) ?_)
 refine oQ [oF 0] [(0, sl A_l l c_l)] (by kernel_rfl) ?_
 refine ops_nil (fin_then (st_seq (st_region [oF 0, oF 1, oF 2, oF 3] (by rfl) ?_)))
 refine oQ [oF 0, oF 1] [(7, vI (l.length : Int)), (0, sl A_l l c_l)] (by kernel_rfl) ?_
 obtain ⟨l1, hv2, hp⟩ := obind hp
 obtain ⟨m3, hm4, he5, hb6⟩ := mk_some hv2
 have hl7 : l1.length = m3 := by rw [he5, List.length_replicate]
 obtain ⟨y8, hy9⟩ : ∃ y_, (Sx.madeOf [vU 0] (l1.length * 1)).toList = y_ := ⟨_, rfl⟩
 have h10 : RepL (Rep.int .u64) F W l1 y8 := by rw [← hy9, hl7, he5]; exact RepL.made rfl (by decide) _
 refine ops_makeO (t := 133) (x := (Go.Operand.tmp 7)) (y := (Go.Operand.tmp 7)) (d := some 8) (nn := l1.length) (z := 1) (bytes := 8) (xs := y8) (zv := vU 0) ⟨by kernel_rfl⟩ rfl rfl (by rw [hl7]; exact hm4) (by rw [hl7]; exact hm4) Tryd.underlying133 (by kernel_rfl) (by rw [hl7]; exact hb6) (by rfl) hy9 (fun _ _ _ hS h' => trivial) (fun g11 => ?_)
 refine oQ [oF 3] [(3, sl (sa g11) l1 l1.length), (0, sl A_l l c_l)] (by kernel_rfl) ?_
 refine ops_nil (fin_then ?_)
 refine st_join1 (σ := (List Int) × (List Value)) (L := fun x_ => match x_ with | (l12, y13) => [(3, sl (sa g11) l12 l1.length)]) (N := fun x_ => match x_ with | (l12, y13) => Mem w0 (ow (sa g11) l12 l1.length 82 1 y13 :: Fz F W :: cs)) (I := fun x_ => match x_ with | (l12, y13) => (sum_Ints_j1 l12 = some i9001) ∧ (RepL (Rep.int .u64) F W l12 y13)) ?_ ?_
 ·
  rintro ⟨l12, y13⟩ ⟨hp, h14⟩
  unfold sum_Ints_j1 at hp
  refine st_seq (st_region [oF 0, oF 1, oF 2] (by rfl) ?_)
  refine oQ [oF 0] [(22, sl (sa g11) l12 l1.length)] (by kernel_rfl) ?_
  obtain ⟨x15, hv16, hp⟩ := obind hp
  refine ops_callI (σ := Unit) (d := some 23) (f := 84) (args := #[sl (sa g11) l12 l1.length]) (v := (fun _ => vU x15)) (I := (fun _ => True)) (M' := (fun _ => Mem w0 (ow (sa g11) l12 l1.length 82 1 y13 :: Fz F W :: cs))) ⟨by kernel_rfl⟩ (fun w_ hM hS => (sum_Words_ok w_ w_ [] (fun b => b < w_.heap.size) w_ (sa g11) l1.length l12 (Mem.fz0 w_) (hM.ordS 0 1 rfl rfl h14 rfl rfl) x15 hv16).mono (by rintro e w' ⟨-, rfl, h'⟩; have h' : Mem w_ [] w' := h'.pick 1 [] (by kernel_rfl) (by decide) rfl; exact ⟨(), trivial, rfl, hM.join h' rfl, trivial⟩)) ?_
  rintro _ -
  refine oQ [oF 2] [(2, vU x15)] (by kernel_rfl) ?_
  refine ops_nil (fin_then (st_ret ?_))
  have hq_ := Option.some.inj hp
  have hr0_ := hq_
  subst hr0_
  refine fin_ret [.tmp 2] [vU x15] rfl rfl (fun w_ hM => (.tmp rfl .nil)) (fun w_ hM => ?_)
  exact ⟨trivial, rfl, hM.pick 2 [1] (by kernel_rfl) (by decide) rfl⟩
 ·
  intro HJ1
  refine st_seq (st_seq (st_region [oF 0, oF 1, oF 2] (by rfl) ?_))
  refine oQ [oF 0, oF 1, oF 2] [(11, vI 0), (10, vI (l.length : Int)), (9, sl A_l l c_l), (3, sl (sa g11) l1 l1.length)] (by kernel_rfl) ?_
  refine ops_nil (fin_then (st_block ?_))
  obtain ⟨r2, hl2, hk2⟩ := obind hp
  refine st_loopP (σ := (List Int) × Int) (ρ := (List Int)) (γ := (List Value)) hl2 y8 (fun s_ g_ => match s_, g_ with | (l17, i20), y18 => [(3, sl (sa g11) l17 l1.length), (9, sl A_l l c_l), (10, vI (l.length : Int)), (11, vI i20)]) (fun s_ g_ => match s_, g_ with | (l17, i20), y18 => Mem w0 (ow (sa g11) l17 l1.length 82 1 y18 :: Fz F W :: cs)) (fun s_ g_ => match s_, g_ with | (l17, i20), y18 => (RepL (Rep.int .u64) F W l17 y18)) h10 (look_has ⟨rfl, rfl, rfl, rfl, trivial⟩) (fun w_ hM => hM) ?_
  rintro ⟨l17, i20⟩ y18 o2 h19 hs_ hd2
  have hp : (sum_Ints_l2 l) l17 i20 = some o2 := hs_
  clear hs_
  unfold sum_Ints_l2 at hp
  refine st_seq (st_region [oF 0] (by rfl) ?_)
  refine oQ [oF 0] [(12, .bool (decide (i20 < (l.length : Int)))), (3, sl (sa g11) l17 l1.length), (9, sl A_l l c_l), (10, vI (l.length : Int)), (11, vI i20)] (by kernel_rfl) ?_
  refine ops_nil (fin_then (st_seq ?_))
  refine st_if (b := decide (i20 < (l.length : Int))) rfl (fun hc21 => ?_) (fun hc21 => ?_)
  ·
   have hp := cnd_t hc21 hp
   refine st_skip (fin_then (st_seq (st_block (st_seq (st_region [oF 0, oF 1, oF 2, oF 3, oF 4] (by rfl) ?_)))))
   refine oQ [oF 0] [(13, vI i20), (3, sl (sa g11) l17 l1.length), (9, sl A_l l c_l), (10, vI (l.length : Int)), (11, vI i20)] (by kernel_rfl) ?_
   obtain ⟨x22, hv23, hp⟩ := obind hp
   obtain ⟨m24, hm25, hx26⟩ := idx_some hv23
   have hl29 := (List.getElem?_eq_some_iff.1 hx26).1
   obtain ⟨ad30, vs27, hA31, hr28, hq32⟩ := RdS.el h_l hx26
   obtain rfl := hr28
   refine ops_val (op := (.indexAddr 33 (.tmp 9) (.tmp 11))) (d := some 14) (v := .pointer (some (ad30.add (m24 * 1)))) ⟨by kernel_rfl⟩ (run_indexA hA31 Tryd.underlying33 (z := 1) (by kernel_rfl) rfl rfl hm25 hl29) ?_
   refine ops_mem (d := some 15) (an := [.v (vI x22)]) (evs := [.load (ad30.add (m24 * 1)) (vI x22)]) (v := vI x22) ⟨by kernel_rfl⟩ (fun w_ hM hS => ⟨w_, ⟨hM.elcell 1 rfl hq32 0 rfl, rfl⟩, hM, trivial⟩) ?_
   refine oQ [oF 3, oF 4] [(5, vI x22), (4, vI i20), (3, sl (sa g11) l17 l1.length), (9, sl A_l l c_l), (10, vI (l.length : Int)), (11, vI i20)] (by kernel_rfl) ?_
   refine ops_nil (fin_then (st_region [oF 0, oF 1, oF 2, oF 3, oF 4, oF 5] (by rfl) ?_))
   refine oQ [oF 0, oF 1, oF 2, oF 3] [(19, vU (IntKind.u64.wrap x22)), (17, vI i20), (16, sl (sa g11) l17 l1.length), (3, sl (sa g11) l17 l1.length), (9, sl A_l l c_l), (10, vI (l.length : Int)), (11, vI i20)] (by kernel_rfl) ?_
   obtain ⟨x33, hv34, hp⟩ := obind hp
   obtain ⟨m35, hm36, hx37⟩ := idx_some hv34
   have hl40 := (List.getElem?_eq_some_iff.1 hx37).1
   obtain ⟨vs38, hr39, hq41⟩ := h19.at_ m35 x33 hx37
   obtain rfl := hr39
   refine ops_val (op := (.indexAddr 133 (.tmp 16) (.tmp 17))) (d := some 20) (v := vP g11 (m35 * 1)) ⟨by kernel_rfl⟩ (run_indexRow Tryd.underlying133 (z := 1) (by kernel_rfl) rfl rfl hm36 hl40 rfl) ?_
   refine oQ [] [(20, vP g11 (m35 * 1)), (19, vU (IntKind.u64.wrap x22)), (3, sl (sa g11) l17 l1.length), (9, sl A_l l c_l), (10, vI (l.length : Int)), (11, vI i20)] (by kernel_rfl) ?_
   obtain ⟨l42, hv43, hp⟩ := obind hp
   obtain ⟨m44, hm45, hl46, he47⟩ := upd_some hv43
   obtain rfl : m35 = m44 := by have := hm36; omega
   have hl48 : l17.length = l42.length := by rw [he47, List.length_set]
   obtain ⟨y49, hy50⟩ : ∃ y_, setAll y18 (m35 * 1 + 0) [vU (IntKind.u64.wrap x22)] = y_ := ⟨_, rfl⟩
   have h51 : RepL (Rep.int .u64) F W l42 y49 := by rw [he47, ← hy50]; exact RepL.set h19 (List.getElem?_eq_getElem hl46) (fun vs_ hr_ _ => by obtain rfl := hr_; exact ⟨rfl, Nat.le_of_ble_eq_true rfl⟩)
   refine ops_store (an := []) (evs := [.store ⟨g11, m35 * 1, none⟩ (vU (IntKind.u64.wrap x22))]) ⟨by kernel_rfl⟩ (fun w_ hM hS => let ⟨w', he, h'⟩ := hM.ostore' 0 rfl (m35 * 1 + 0) [vU (IntKind.u64.wrap x22)] (by have z_ : y18.length = l17.length * 1 := h19.len; have y_ : (m35 + 1) * 1 ≤ l17.length * 1 := Nat.mul_le_mul_right _ hl46; rw [Nat.add_mul] at y_; simp only [List.length_cons, List.length_nil]; omega) hl48 hy50; ⟨w', he, h', trivial⟩) ?_
   refine ops_conv (l' := [(20, vP g11 (m35 * 1)), (19, vU (IntKind.u64.wrap x22)), (3, sl (sa g11) l42 l1.length), (9, sl A_l l c_l), (10, vI (l.length : Int)), (11, vI i20)]) (M' := Mem w0 (ow (sa g11) l42 l1.length 82 1 y49 :: Fz F W :: cs)) (by first | rfl | ((try dsimp only [sl, ow]); rw [hl48])) (fun w_ hM => by first | exact hM | ((try dsimp only [sl, ow] at hM ⊢); rw [hl48] at hM; exact hM)) ?_
   refine ops_nil (fin_block (fin_then (st_region [oF 0, oF 1] (by rfl) ?_)))
   refine oQ [oF 0, oF 1] [(11, vI (IntKind.i64.wrap (i20 + 1))), (3, sl (sa g11) l42 l1.length), (9, sl A_l l c_l), (10, vI (l.length : Int))] (by kernel_rfl) ?_
   refine ops_nil ?_
   exact fin_again (l42, IntKind.i64.wrap (i20 + 1)) y49 (Option.some.inj hp).symm h51 (look_has ⟨rfl, rfl, rfl, rfl, trivial⟩) (fun w_ hM => hM)
  ·
   have hp := cnd_f hc21 hp
   refine st_exit (fin_exit_then (fin_exit_then (fin_exit ?_)))
   obtain hq_ := Option.some.inj hp
   subst hq_
   obtain hq_ := hd2 _ rfl
   subst hq_
   have hp : sum_Ints_j1 l17 = some i9001 := hk2
   exact fin_join HJ1 (l17, y18) ⟨hp, h19⟩ (look_has ⟨rfl, trivial⟩) (fun w_ hM => hM)
theorem world_Digest_ok (w0 w : World) (cs : List Chunk) (F : Nat → Prop) (W : World) (A_w_0 : Option Addr) (c_w_0 : Nat) (w_0 : List api_Kind) (A_w_1 : Option Addr) (c_w_1 : Nat) (w_1 : List Int) (A_w_2 : Option Addr) (c_w_2 : Nat) (w_2 : List api_Item) (hM0 : Mem w0 (Fz F W :: cs) w) (h_w_0 : RdS R_api_Kind F W A_w_0 c_w_0 w_0) (h_w_1 : RdS (Rep.int .i64) F W A_w_1 c_w_1 w_1) (h_w_2 : RdS R_api_Item F W A_w_2 c_w_2 w_2) (i9001 : Int) (hp : world_Digest w_0 w_1 w_2 = some i9001) : Calls Tryd.prog 52 #[.agg #[sl A_w_0 w_0 c_w_0, sl A_w_1 w_1 c_w_1, sl A_w_2 w_2 c_w_2]] w fun e w' => (True) ∧ e = .returned (vU i9001) ∧ Mem w0 (Fz F W :: cs) w' := by
 unfold world_Digest at hp
 refine sx_calls Tryd.func52 rfl (n := 6) (by kernel_rfl) (l := [(0, .agg #[sl A_w_0 w_0 c_w_0, sl A_w_1 w_1 c_w_1, sl A_w_2 w_2 c_w_2])]) rfl (by rfl) hM0 ?_
 refine st_seq (st_region [oF 0, oF 1] (by rfl) ?_)
 refine ops_newB (d := some 1) [sl A_w_0 w_0 c_w_0, sl A_w_1 w_1 c_w_1, sl A_w_2 w_2 c_w_2] 71 (fun b1 => ⟨by kernel_rfl⟩) (fun w_ hM hS => trivial) (fun b1 => ?_)
 refine oQ [oF 1] [(1, vP b1 0)] (by kernel_rfl) ?_
 refine ops_nil (fin_then (st_seq (st_region [oF 0, oF 1, oF 2, oF 3] (by rfl) ?_)))
 refine ops_mem (d := some 3) (an := [.v (sl A_w_0 w_0 c_w_0), .v (sl A_w_1 w_1 c_w_1), .v (sl A_w_2 w_2 c_w_2)]) (evs := [ld b1 0 (sl A_w_0 w_0 c_w_0), ld b1 1 (sl A_w_1 w_1 c_w_1), ld b1 2 (sl A_w_2 w_2 c_w_2)]) (v := .agg #[sl A_w_0 w_0 c_w_0, sl A_w_1 w_1 c_w_1, sl A_w_2 w_2 c_w_2]) ⟨by kernel_rfl⟩ (fun w_ hM hS => ⟨w_, ⟨hM.cell 0 rfl rfl, hM.cell 0 rfl rfl, hM.cell 0 rfl rfl, rfl⟩, hM, trivial⟩) ?_
 obtain ⟨x2, hv3, hp⟩ := obind hp
 refine ops_callI (σ := (Option Addr) × Nat × (List Value)) (d := some 4) (f := 45) (args := #[.agg #[sl A_w_0 w_0 c_w_0, sl A_w_1 w_1 c_w_1, sl A_w_2 w_2 c_w_2]]) (v := (fun x_ => match x_ with | (A4, c5, y6) => sl A4 x2 c5)) (I := (fun x_ => match x_ with | (A4, c5, y6) => (RepL (Rep.int .i64) F W x2 y6))) (M' := (fun x_ => match x_ with | (A4, c5, y6) => Mem w0 (ow A4 x2 c5 3 1 y6 :: .blk b1 [sl A_w_0 w_0 c_w_0, sl A_w_1 w_1 c_w_1, sl A_w_2 w_2 c_w_2] 71 :: Fz F W :: cs))) ⟨by kernel_rfl⟩ (fun w_ hM hS => (world_Ints_ok w0 w_ (.blk b1 [sl A_w_0 w_0 c_w_0, sl A_w_1 w_1 c_w_1, sl A_w_2 w_2 c_w_2] 71 :: cs) F W A_w_0 c_w_0 w_0 A_w_1 c_w_1 w_1 A_w_2 c_w_2 w_2 (hM.pick 2 [1, 0] (by kernel_rfl) (by decide) rfl) h_w_0 h_w_1 h_w_2 x2 hv3).mono (by rintro e w' ⟨A4, c5, y6, h7, rfl, h'⟩; have h' : Mem w0 (ow A4 x2 c5 3 1 y6 :: .blk b1 [sl A_w_0 w_0 c_w_0, sl A_w_1 w_1 c_w_1, sl A_w_2 w_2 c_w_2] 71 :: Fz F W :: cs) w' := (h'.pick 3 [0, 2, 1] (by kernel_rfl) (by decide) rfl); exact ⟨(A4, c5, y6), h7, rfl, h', trivial⟩)) ?_
 rintro ⟨A4, c5, y6⟩ h7
 obtain ⟨x8, hv9, hp⟩ := obind hp
 refine ops_callI (σ := Unit) (d := some 5) (f := 53) (args := #[sl A4 x2 c5]) (v := (fun _ => vU x8)) (I := (fun _ => True)) (M' := (fun _ => Mem w0 (ow A4 x2 c5 3 1 y6 :: .blk b1 [sl A_w_0 w_0 c_w_0, sl A_w_1 w_1 c_w_1, sl A_w_2 w_2 c_w_2] 71 :: Fz F W :: cs))) ⟨by kernel_rfl⟩ (fun w_ hM hS => (sum_Ints_ok w_ w_ [] (fun b => b < w_.heap.size) w_ A4 c5 x2 (Mem.fz0 w_) (hM.ordS 0 2 rfl rfl h7 rfl rfl) x8 hv9).mono (by rintro e w' ⟨-, rfl, h'⟩; have h' : Mem w_ [] w' := h'.pick 1 [] (by kernel_rfl) (by decide) rfl; exact ⟨(), trivial, rfl, hM.join h' rfl, trivial⟩)) ?_
 rintro _ -
 refine oQ [oF 3] [(2, vU x8)] (by kernel_rfl) ?_
 refine ops_nil (fin_then (st_ret ?_))
 have hq_ := Option.some.inj hp
 have hr0_ := hq_
 subst hr0_
 refine fin_ret [.tmp 2] [vU x8] rfl rfl (fun w_ hM => (.tmp rfl .nil)) (fun w_ hM => ?_)
 exact ⟨trivial, rfl, hM.pick 3 [2] (by kernel_rfl) (by decide) rfl⟩
def tourlaw3_WorldChecks__t0 : List Row := [⟨0, 288230376151711744, 4⟩, ⟨0, 576460752303423488, 8⟩, ⟨3, 1152921504606846976, 864691128455135232⟩, ⟨0, 2305843009213693952, 4⟩, ⟨0, 4611686018427387904, 8⟩, ⟨28, 9223372036854775808, 6917529027641081856⟩, ⟨36, 18446744073709551616, 10376293541461622784⟩, ⟨96, 36893488147419103232, 18446744073709551616⟩, ⟨128, 73786976294838206464, 36893488147419103236⟩, ⟨128, 147573952589676412928, 36893488147419103236⟩, ⟨896, 295147905179352825856, 258254417031933722624⟩, ⟨1152, 590295810358705651712, 332041393326771929088⟩, ⟨2176, 1180591620717411303424, 627189298506124754944⟩, ⟨5120, 2361183241434822606848, 1180591620717411303424⟩, ⟨8192, 4722366482869645213696, 2361183241434822606852⟩, ⟨24576, 9444732965739290427392, 7083549724304467820544⟩, ⟨8192, 18889465931478580854784, 2361183241434822606852⟩, ⟨106496, 37778931862957161709568, 30695382138652693889024⟩, ⟨139264, 75557863725914323419136, 40140115104391984316416⟩, ⟨270336, 151115727451828646838272, 77919046967349146025984⟩]
def tourlaw3_WorldChecks__t1 : List Row := [⟨0, 302231454903657293676544, 4⟩, ⟨1, 604462909807314587353088, 302231454903657293676544⟩, ⟨0, 1208925819614629174706176, 64⟩, ⟨6, 2417851639229258349412352, 1813388729421943762059264⟩, ⟨10, 4835703278458516698824704, 2417851639229258349412352⟩, ⟨16, 9671406556917033397649408, 4835703278458516698824708⟩, ⟨48, 19342813113834066795298816, 14507109835375550096474112⟩, ⟨16, 38685626227668133590597632, 4835703278458516698824708⟩, ⟨208, 77371252455336267181195264, 43521329506126650289422336⟩, ⟨336, 154742504910672534362390528, 101549768847628850675318784⟩, ⟨528, 309485009821345068724781056, 159578208189131051061215232⟩, ⟨1536, 618970019642690137449562112, 309485009821345068724781056⟩, ⟨2048, 1237940039285380274899124224, 618970019642690137449562116⟩, ⟨6144, 2475880078570760549798248448, 1856910058928070412348686336⟩, ⟨2048, 4951760157141521099596496896, 618970019642690137449562116⟩, ⟨26624, 9903520314283042199192993792, 5570730176784211237046059008⟩, ⟨34816, 19807040628566084398385987584, 10522490333925732336642555904⟩, ⟨75776, 39614081257132168796771975168, 22901890726779535085633798144⟩, ⟨133120, 79228162514264337593543950336, 40233051276774858934221537280⟩, ⟨524287, 16, 79228162514264337593543950336⟩]
theorem tourlaw3_WorldChecks_ok (w0 w : World) (cs : List Chunk) (F : Nat → Prop) (W : World) (A_w_0 : Option Addr) (c_w_0 : Nat) (w_0 : List api_Kind) (A_w_1 : Option Addr) (c_w_1 : Nat) (w_1 : List Int) (A_w_2 : Option Addr) (c_w_2 : Nat) (w_2 : List api_Item) (A_v_0 : Option Addr) (c_v_0 : Nat) (v_0 : List api_Kind) (A_v_1 : Option Addr) (c_v_1 : Nat) (v_1 : List Int) (A_v_2 : Option Addr) (c_v_2 : Nat) (v_2 : List api_Item) (hM0 : Mem w0 (Fz F W :: cs) w) (h_w_0 : RdS R_api_Kind F W A_w_0 c_w_0 w_0) (h_w_1 : RdS (Rep.int .i64) F W A_w_1 c_w_1 w_1) (h_w_2 : RdS R_api_Item F W A_w_2 c_w_2 w_2) (h_v_0 : RdS R_api_Kind F W A_v_0 c_v_0 v_0) (h_v_1 : RdS (Rep.int .i64) F W A_v_1 c_v_1 v_1) (h_v_2 : RdS R_api_Item F W A_v_2 c_v_2 v_2) (t9001 : Bool) (hp : tourlaw3_WorldChecks w_0 w_1 w_2 v_0 v_1 v_2 = some t9001) : Calls Tryd.prog 6 #[.agg #[sl A_w_0 w_0 c_w_0, sl A_w_1 w_1 c_w_1, sl A_w_2 w_2 c_w_2], .agg #[sl A_v_0 v_0 c_v_0, sl A_v_1 v_1 c_v_1, sl A_v_2 v_2 c_v_2]] w fun e w' => ∃ (F9002 : Nat → Prop), ∃ (W9003 : World), ((Ext w0 F W F9002 W9003)) ∧ e = .returned (.bool t9001) ∧ Mem w0 (Fz F9002 W9003 :: cs) w' := by
 unfold tourlaw3_WorldChecks at hp
 refine sx_calls Tryd.func6 rfl (n := 97) (by kernel_rfl) (l := [(0, .agg #[sl A_w_0 w_0 c_w_0, sl A_w_1 w_1 c_w_1, sl A_w_2 w_2 c_w_2]), (1, .agg #[sl A_v_0 v_0 c_v_0, sl A_v_1 v_1 c_v_1, sl A_v_2 v_2 c_v_2])]) rfl (by rfl) hM0 ?_
 refine st_seq (st_region [oF 0, oF 1, oF 2] (by rfl) ?_)
 refine ops_newB (d := some 2) [sl A_w_0 w_0 c_w_0, sl A_w_1 w_1 c_w_1, sl A_w_2 w_2 c_w_2] 71 (fun b1 => ⟨by kernel_rfl⟩) (fun w_ hM hS => trivial) (fun b1 => ?_)
 refine ops_newB (d := some 3) [sl A_v_0 v_0 c_v_0, sl A_v_1 v_1 c_v_1, sl A_v_2 v_2 c_v_2] 71 (fun b2 => ⟨by kernel_rfl⟩) (fun w_ hM hS => trivial) (fun b2 => ?_)
 refine oQ [oF 2] [(3, vP b2 0), (2, vP b1 0)] (by kernel_rfl) ?_
 refine ops_nil (fin_then (st_seq (st_seq (st_region [oF 0, oF 1, oF 2, oF 3, oF 4, oF 5, oF 6, oF 7, oF 8] (by rfl) ?_))))
 obtain ⟨x3, x4, x5, hv6, hp⟩ := obind3 hp
 refine ops_callI (σ := (Option Addr) × (List Value) × (Option Addr) × (List Value) × (Option Addr) × (List Value) × (Nat → Prop) × World) (d := some 10) (f := 44) (args := #[]) (v := (fun x_ => match x_ with | (A7, y8, A9, y10, A11, y12, F13, W14) => .agg #[sl A7 x3 2, sl A9 x4 2, sl A11 x5 2])) (I := (fun x_ => match x_ with | (A7, y8, A9, y10, A11, y12, F13, W14) => (RepL R_api_Kind F13 W14 x3 y8) ∧ (RepL (Rep.int .i64) F13 W14 x4 y10) ∧ (RepL R_api_Item F13 W14 x5 y12) ∧ (Ext w0 F W F13 W14))) (M' := (fun x_ => match x_ with | (A7, y8, A9, y10, A11, y12, F13, W14) => Mem w0 (ow A7 x3 2 27 2 y8 :: ow A9 x4 2 3 1 y10 :: ow A11 x5 2 115 3 y12 :: .blk b2 [sl A_v_0 v_0 c_v_0, sl A_v_1 v_1 c_v_1, sl A_v_2 v_2 c_v_2] 71 :: .blk b1 [sl A_w_0 w_0 c_w_0, sl A_w_1 w_1 c_w_1, sl A_w_2 w_2 c_w_2] 71 :: Fz F13 W14 :: cs))) ⟨by kernel_rfl⟩ (fun w_ hM hS => (tourlaw3_pair_ok w0 w_ (.blk b2 [sl A_v_0 v_0 c_v_0, sl A_v_1 v_1 c_v_1, sl A_v_2 v_2 c_v_2] 71 :: .blk b1 [sl A_w_0 w_0 c_w_0, sl A_w_1 w_1 c_w_1, sl A_w_2 w_2 c_w_2] 71 :: cs) F W  (hM.pick 3 [2, 0, 1] (by kernel_rfl) (by decide) rfl)  x3 x4 x5 hv6).mono (by rintro e w' ⟨A7, y8, A9, y10, A11, y12, F13, W14, ⟨h15, h16, h17, h18⟩, rfl, h'⟩; have h' : Mem w0 (ow A7 x3 2 27 2 y8 :: ow A9 x4 2 3 1 y10 :: ow A11 x5 2 115 3 y12 :: .blk b2 [sl A_v_0 v_0 c_v_0, sl A_v_1 v_1 c_v_1, sl A_v_2 v_2 c_v_2] 71 :: .blk b1 [sl A_w_0 w_0 c_w_0, sl A_w_1 w_1 c_w_1, sl A_w_2 w_2 c_w_2] 71 :: Fz F13 W14 :: cs) w' := (h'.pick 6 [0, 1, 2, 4, 5, 3] (by kernel_rfl) (by decide) rfl); exact ⟨(A7, y8, A9, y10, A11, y12, F13, W14), ⟨h15, h16, h17, h18⟩, rfl, h', trivial⟩)) ?_
 rintro ⟨A7, y8, A9, y10, A11, y12, F13, W14⟩ ⟨h15, h16, h17, h18⟩
 have h_v_0 := h_v_0.ext h18
 have h_v_1 := h_v_1.ext h18
 have h_v_2 := h_v_2.ext h18
 have h_w_0 := h_w_0.ext h18
 have h_w_1 := h_w_1.ext h18
 have h_w_2 := h_w_2.ext h18
 obtain ⟨x19, hv20, hp⟩ := obind hp
 refine ops_callI (σ := Unit) (d := some 11) (f := 43) (args := #[.agg #[sl A7 x3 2, sl A9 x4 2, sl A11 x5 2]]) (v := (fun _ => vI x19)) (I := (fun _ => True)) (M' := (fun _ => Mem w0 (ow A7 x3 2 27 2 y8 :: ow A9 x4 2 3 1 y10 :: ow A11 x5 2 115 3 y12 :: .blk b2 [sl A_v_0 v_0 c_v_0, sl A_v_1 v_1 c_v_1, sl A_v_2 v_2 c_v_2] 71 :: .blk b1 [sl A_w_0 w_0 c_w_0, sl A_w_1 w_1 c_w_1, sl A_w_2 w_2 c_w_2] 71 :: Fz F13 W14 :: cs))) ⟨by kernel_rfl⟩ (fun w_ hM hS => (world_Check_ok w_ w_ [] (fun b => b < w_.heap.size) w_ A7 2 x3 A9 2 x4 A11 2 x5 (Mem.fz0 w_) (hM.ordS 0 5 rfl rfl h15 rfl rfl) (hM.ordS 1 5 rfl rfl h16 rfl rfl) (hM.ordS 2 5 rfl rfl h17 rfl rfl) x19 hv20).mono (by rintro e w' ⟨-, rfl, h'⟩; have h' : Mem w_ [] w' := h'.pick 1 [] (by kernel_rfl) (by decide) rfl; exact ⟨(), trivial, rfl, hM.join h' rfl, trivial⟩)) ?_
 rintro _ -
 refine oQ [oF 2, oF 3] [(13, .bool (!(x19 == 0))), (3, vP b2 0), (2, vP b1 0)] (by kernel_rfl) ?_
 refine ops_bool (t := !(x19 == 0)) (l1 := [(13, .bool true), (3, vP b2 0), (2, vP b1 0)]) (l2 := [(13, .bool false), (3, vP b2 0), (2, vP b1 0)]) (fun h => by rw [h]) (fun h => by rw [h]) (fun hc21 => ?_) (fun hc21 => ?_)
 ·
  have hp := cnd_t hc21 hp
  refine oQ [oF 4, oF 5, oF 6, oF 7, oF 8] [(18, .bool true), (3, vP b2 0), (2, vP b1 0)] (by kernel_rfl) ?_
  refine ops_nil (fin_then (st_true rfl (st_seq (st_region [oF 0] (by rfl) ?_))))
  refine oQ [oF 0] [(4, .bool false)] (by kernel_rfl) ?_
  refine ops_nil (fin_then (st_ret (fin_ret_then ?_)))
  have hq_ := Option.some.inj hp
  have hr0_ := hq_
  subst hr0_
  refine fin_ret [.tmp 4] [.bool false] rfl rfl (fun w_ hM => (.tmp rfl .nil)) (fun w_ hM => ?_)
  exact ⟨F13, W14, h18, rfl, hM.pick 6 [5] (by kernel_rfl) (by decide) rfl⟩
 ·
  have hp := cnd_f hc21 hp
  obtain ⟨x22, x23, x24, hv25, hp⟩ := obind3 hp
  refine ops_callI (σ := (Option Addr) × (List Value) × (Option Addr) × (List Value) × (Option Addr) × (List Value) × (Nat → Prop) × World) (d := some 14) (f := 44) (args := #[]) (v := (fun x_ => match x_ with | (A26, y27, A28, y29, A30, y31, F32, W33) => .agg #[sl A26 x22 2, sl A28 x23 2, sl A30 x24 2])) (I := (fun x_ => match x_ with | (A26, y27, A28, y29, A30, y31, F32, W33) => (RepL R_api_Kind F32 W33 x22 y27) ∧ (RepL (Rep.int .i64) F32 W33 x23 y29) ∧ (RepL R_api_Item F32 W33 x24 y31) ∧ (Ext w0 F13 W14 F32 W33))) (M' := (fun x_ => match x_ with | (A26, y27, A28, y29, A30, y31, F32, W33) => Mem w0 (ow A26 x22 2 27 2 y27 :: ow A28 x23 2 3 1 y29 :: ow A30 x24 2 115 3 y31 :: ow A7 x3 2 27 2 y8 :: ow A9 x4 2 3 1 y10 :: ow A11 x5 2 115 3 y12 :: .blk b2 [sl A_v_0 v_0 c_v_0, sl A_v_1 v_1 c_v_1, sl A_v_2 v_2 c_v_2] 71 :: .blk b1 [sl A_w_0 w_0 c_w_0, sl A_w_1 w_1 c_w_1, sl A_w_2 w_2 c_w_2] 71 :: Fz F32 W33 :: cs))) ⟨by kernel_rfl⟩ (fun w_ hM hS => (tourlaw3_pair_ok w0 w_ (ow A7 x3 2 27 2 y8 :: ow A9 x4 2 3 1 y10 :: ow A11 x5 2 115 3 y12 :: .blk b2 [sl A_v_0 v_0 c_v_0, sl A_v_1 v_1 c_v_1, sl A_v_2 v_2 c_v_2] 71 :: .blk b1 [sl A_w_0 w_0 c_w_0, sl A_w_1 w_1 c_w_1, sl A_w_2 w_2 c_w_2] 71 :: cs) F13 W14  (hM.pick 6 [5, 0, 1, 2, 3, 4] (by kernel_rfl) (by decide) rfl)  x22 x23 x24 hv25).mono (by rintro e w' ⟨A26, y27, A28, y29, A30, y31, F32, W33, ⟨h34, h35, h36, h37⟩, rfl, h'⟩; have h' : Mem w0 (ow A26 x22 2 27 2 y27 :: ow A28 x23 2 3 1 y29 :: ow A30 x24 2 115 3 y31 :: ow A7 x3 2 27 2 y8 :: ow A9 x4 2 3 1 y10 :: ow A11 x5 2 115 3 y12 :: .blk b2 [sl A_v_0 v_0 c_v_0, sl A_v_1 v_1 c_v_1, sl A_v_2 v_2 c_v_2] 71 :: .blk b1 [sl A_w_0 w_0 c_w_0, sl A_w_1 w_1 c_w_1, sl A_w_2 w_2 c_w_2] 71 :: Fz F32 W33 :: cs) w' := (h'.pick 9 [0, 1, 2, 4, 5, 6, 7, 8, 3] (by kernel_rfl) (by decide) rfl); exact ⟨(A26, y27, A28, y29, A30, y31, F32, W33), ⟨h34, h35, h36, h37⟩, rfl, h', trivial⟩)) ?_
  rintro ⟨A26, y27, A28, y29, A30, y31, F32, W33⟩ ⟨h34, h35, h36, h37⟩
  have h15 := h15.ext h37
  have h16 := h16.ext h37
  have h17 := h17.ext h37
  have h_v_0 := h_v_0.ext h37
  have h_v_1 := h_v_1.ext h37
  have h_v_2 := h_v_2.ext h37
  have h_w_0 := h_w_0.ext h37
  have h_w_1 := h_w_1.ext h37
  have h_w_2 := h_w_2.ext h37
  obtain ⟨x38, hv39, hp⟩ := obind hp
  refine ops_callI (σ := (Option Addr) × Nat × (List Value)) (d := some 15) (f := 45) (args := #[.agg #[sl A26 x22 2, sl A28 x23 2, sl A30 x24 2]]) (v := (fun x_ => match x_ with | (A40, c41, y42) => sl A40 x38 c41)) (I := (fun x_ => match x_ with | (A40, c41, y42) => (RepL (Rep.int .i64) F32 W33 x38 y42))) (M' := (fun x_ => match x_ with | (A40, c41, y42) => Mem w0 (ow A40 x38 c41 3 1 y42 :: ow A26 x22 2 27 2 y27 :: ow A28 x23 2 3 1 y29 :: ow A30 x24 2 115 3 y31 :: ow A7 x3 2 27 2 y8 :: ow A9 x4 2 3 1 y10 :: ow A11 x5 2 115 3 y12 :: .blk b2 [sl A_v_0 v_0 c_v_0, sl A_v_1 v_1 c_v_1, sl A_v_2 v_2 c_v_2] 71 :: .blk b1 [sl A_w_0 w_0 c_w_0, sl A_w_1 w_1 c_w_1, sl A_w_2 w_2 c_w_2] 71 :: Fz F32 W33 :: cs))) ⟨by kernel_rfl⟩ (fun w_ hM hS => (world_Ints_ok w_ w_ [] (fun b => b < w_.heap.size) w_ A26 2 x22 A28 2 x23 A30 2 x24 (Mem.fz0 w_) (hM.ordS 0 8 rfl rfl h34 rfl rfl) (hM.ordS 1 8 rfl rfl h35 rfl rfl) (hM.ordS 2 8 rfl rfl h36 rfl rfl) x38 hv39).mono (by rintro e w' ⟨A40, c41, y42, h43, rfl, h'⟩; have h' : Mem w_ [ow A40 x38 c41 3 1 y42] w' := h'.pick 2 [0] (by kernel_rfl) (by decide) rfl; exact ⟨(A40, c41, y42), (RepL.move' (fun h => h) h43), rfl, hM.join h' rfl, trivial⟩)) ?_
  rintro ⟨A40, c41, y42⟩ h43
  refine oQ [oF 6, oF 7, oF 8] [(18, .bool ((x38.length : Int) == 0)), (3, vP b2 0), (2, vP b1 0)] (by kernel_rfl) ?_
  refine ops_nil (fin_then ?_)
  refine st_if (b := ((x38.length : Int) == 0)) rfl (fun hc44 => ?_) (fun hc44 => ?_)
  ·
   have hp := cnd_t hc44 hp
   refine st_seq (st_region [oF 0] (by rfl) ?_)
   refine oQ [oF 0] [(4, .bool false)] (by kernel_rfl) ?_
   refine ops_nil (fin_then (st_ret (fin_ret_then ?_)))
   have hq_ := Option.some.inj hp
   have hr0_ := hq_
   subst hr0_
   refine fin_ret [.tmp 4] [.bool false] rfl rfl (fun w_ hM => (.tmp rfl .nil)) (fun w_ hM => ?_)
   exact ⟨F32, W33, (h18.trans h37), rfl, hM.pick 10 [9] (by kernel_rfl) (by decide) rfl⟩
  ·
   have hp := cnd_f hc44 hp
   refine st_skip (fin_then ?_)
   refine st_join1 (σ := Int × (Nat → Prop) × World) (L := fun x_ => match x_ with | (i45, F46, W47) => [(2, vP b1 0), (3, vP b2 0), (6, vI i45)]) (N := fun x_ => match x_ with | (i45, F46, W47) => Mem w0 (.blk b1 [sl A_w_0 w_0 c_w_0, sl A_w_1 w_1 c_w_1, sl A_w_2 w_2 c_w_2] 71 :: .blk b2 [sl A_v_0 v_0 c_v_0, sl A_v_1 v_1 c_v_1, sl A_v_2 v_2 c_v_2] 71 :: Fz F46 W47 :: cs)) (I := fun x_ => match x_ with | (i45, F46, W47) => ((tourlaw3_WorldChecks_j1 w_0 w_1 w_2 v_0 v_1 v_2) i45 = some t9001) ∧ (Ext w0 F32 W33 F46 W47)) ?_ ?_
   ·
    rintro ⟨i45, F46, W47⟩ ⟨hp, hx1⟩
    have h_w_0 := h_w_0.ext hx1
    have h_w_1 := h_w_1.ext hx1
    have h_w_2 := h_w_2.ext hx1
    have h_v_0 := h_v_0.ext hx1
    have h_v_1 := h_v_1.ext hx1
    have h_v_2 := h_v_2.ext hx1
    unfold tourlaw3_WorldChecks_j1 at hp
    refine st_seq (st_region [oF 0, oF 1, oF 2, oF 3, oF 4, oF 5, oF 6, oF 7, oF 8] (by rfl) ?_)
    refine oQ [oF 0] [(25, vP b1 0), (2, vP b1 0), (3, vP b2 0), (6, vI i45)] (by kernel_rfl) ?_
    refine ops_mem (d := some 26) (an := [.v (sl A_w_0 w_0 c_w_0)]) (evs := [ld b1 0 (sl A_w_0 w_0 c_w_0)]) (v := sl A_w_0 w_0 c_w_0) ⟨by kernel_rfl⟩ (fun w_ hM hS => ⟨w_, ⟨hM.cell 0 rfl rfl, rfl⟩, hM, trivial⟩) ?_
    obtain ⟨x48, x49, hv50, hp⟩ := obind2 hp
    refine ops_callI (σ := (Option Addr) × Nat × (List Value) × (Nat → Prop) × World) (d := some 27) (f := 47) (args := #[sl A_w_0 w_0 c_w_0]) (v := (fun x_ => match x_ with | (A51, c52, y53, F54, W55) => .tuple #[.agg #[sl A51 x48 c52, .slice none 0 0, .slice none 0 0], vI x49])) (I := (fun x_ => match x_ with | (A51, c52, y53, F54, W55) => (RepL R_api_Kind F54 W55 x48 y53) ∧ (Ext w0 F46 W47 F54 W55))) (M' := (fun x_ => match x_ with | (A51, c52, y53, F54, W55) => Mem w0 (ow A51 x48 c52 27 2 y53 :: .blk b1 [sl A_w_0 w_0 c_w_0, sl A_w_1 w_1 c_w_1, sl A_w_2 w_2 c_w_2] 71 :: .blk b2 [sl A_v_0 v_0 c_v_0, sl A_v_1 v_1 c_v_1, sl A_v_2 v_2 c_v_2] 71 :: Fz F54 W55 :: cs))) ⟨by kernel_rfl⟩ (fun w_ hM hS => (world_New_ok w0 w_ (.blk b1 [sl A_w_0 w_0 c_w_0, sl A_w_1 w_1 c_w_1, sl A_w_2 w_2 c_w_2] 71 :: .blk b2 [sl A_v_0 v_0 c_v_0, sl A_v_1 v_1 c_v_1, sl A_v_2 v_2 c_v_2] 71 :: cs) F46 W47 A_w_0 c_w_0 w_0 (hM.pick 3 [2, 0, 1] (by kernel_rfl) (by decide) rfl) h_w_0 x48 x49 hv50).mono (by rintro e w' ⟨A51, c52, y53, F54, W55, ⟨h56, h57⟩, rfl, h'⟩; have h' : Mem w0 (ow A51 x48 c52 27 2 y53 :: .blk b1 [sl A_w_0 w_0 c_w_0, sl A_w_1 w_1 c_w_1, sl A_w_2 w_2 c_w_2] 71 :: .blk b2 [sl A_v_0 v_0 c_v_0, sl A_v_1 v_1 c_v_1, sl A_v_2 v_2 c_v_2] 71 :: Fz F54 W55 :: cs) w' := (h'.pick 4 [0, 2, 3, 1] (by kernel_rfl) (by decide) rfl); exact ⟨(A51, c52, y53, F54, W55), ⟨h56, h57⟩, rfl, h', trivial⟩)) ?_
    rintro ⟨A51, c52, y53, F54, W55⟩ ⟨h56, h57⟩
    have h_w_0 := h_w_0.ext h57
    have h_w_1 := h_w_1.ext h57
    have h_w_2 := h_w_2.ext h57
    have h_v_0 := h_v_0.ext h57
    have h_v_1 := h_v_1.ext h57
    have h_v_2 := h_v_2.ext h57
    refine oQ [oF 3, oF 4, oF 5] [(29, vI x49), (28, .agg #[sl A51 x48 c52, .slice none 0 0, .slice none 0 0]), (2, vP b1 0), (3, vP b2 0), (6, vI i45)] (by kernel_rfl) ?_
    refine ops_newB (d := some 7) [.slice none 0 0, .slice none 0 0, .slice none 0 0] 71 (fun b58 => ⟨by kernel_rfl⟩) (fun w_ hM hS => trivial) (fun b58 => ?_)
    refine ops_store (an := []) (evs := [sr b58 0 (sl A51 x48 c52), sr b58 1 (.slice none 0 0), sr b58 2 (.slice none 0 0)]) ⟨by kernel_rfl⟩ (fun w_ hM hS => let ⟨w', he, h'⟩ := hM.evs_stores [sl A51 x48 c52, .slice none 0 0, .slice none 0 0] 0 rfl 0 (Nat.le_of_ble_eq_true rfl); ⟨w', he, h', trivial⟩) ?_
    refine oQ [oF 8] [(8, vI x49), (7, vP b58 0), (2, vP b1 0), (3, vP b2 0), (6, vI i45)] (by kernel_rfl) ?_
    refine ops_nil (fin_then ?_)
    refine st_join1 (σ := Unit) (L := fun _ => [(2, vP b1 0), (3, vP b2 0), (6, vI i45)]) (N := fun _ => Mem w0 (.blk b1 [sl A_w_0 w_0 c_w_0, sl A_w_1 w_1 c_w_1, sl A_w_2 w_2 c_w_2] 71 :: .blk b2 [sl A_v_0 v_0 c_v_0, sl A_v_1 v_1 c_v_1, sl A_v_2 v_2 c_v_2] 71 :: Fz F54 W55 :: cs)) (I := fun _ => ((tourlaw3_WorldChecks_j2 w_0 w_1 w_2 v_0 v_1 v_2 i45) = some t9001)) ?_ ?_
    ·
     rintro _ hp
     unfold tourlaw3_WorldChecks_j2 at hp
     refine st_seq (st_seq ?_)
     refine st_region_fast tourlaw3_WorldChecks__t0 [oT 0, oT 1, oT 3, oT 4, oF 2, oF 5, oT 6, oT 7, oT 8, oT 9, oF 10, oT 11, oT 12, oT 13, oT 14, oT 16, oF 15, oF 17, oT 18, oT 19] (Mem w0 (.blk b1 [sl A_w_0 w_0 c_w_0, sl A_w_1 w_1 c_w_1, sl A_w_2 w_2 c_w_2] 71 :: .blk b2 [sl A_v_0 v_0 c_v_0, sl A_v_1 v_1 c_v_1, sl A_v_2 v_2 c_v_2] 71 :: Fz F54 W55 :: cs)) (by kernel_rfl) (by kernel_rfl) (by kernel_rfl) (by kernel_rfl) (by kernel_rfl) (fun _ d _ _ _ h => by cases d <;> exact h) (M' := Mem w0 (.blk b1 [sl A_w_0 w_0 c_w_0, sl A_w_1 w_1 c_w_1, sl A_w_2 w_2 c_w_2] 71 :: .blk b2 [sl A_v_0 v_0 c_v_0, sl A_v_1 v_1 c_v_1, sl A_v_2 v_2 c_v_2] 71 :: Fz F54 W55 :: cs)) (fun w_ hM => ⟨hM.drew, hM.drew.sub (.cons_cons _ (.cons_cons _ (.cons_cons _ (.refl _))))⟩) ?_
     refine ops_load (d := some 58) (an := [.v (sl A_w_0 w_0 c_w_0), .v (sl A_w_1 w_1 c_w_1), .v (sl A_w_2 w_2 c_w_2)]) (evs := [ld b1 0 (sl A_w_0 w_0 c_w_0), ld b1 1 (sl A_w_1 w_1 c_w_1), ld b1 2 (sl A_w_2 w_2 c_w_2)]) (v := .agg #[sl A_w_0 w_0 c_w_0, sl A_w_1 w_1 c_w_1, sl A_w_2 w_2 c_w_2]) ⟨by kernel_rfl⟩ (fun w_ hM => ⟨hM.cell 0 rfl rfl, hM.cell 0 rfl rfl, hM.cell 0 rfl rfl, rfl⟩) ?_
     refine ops_load (d := some 59) (an := [.v (sl A_v_0 v_0 c_v_0), .v (sl A_v_1 v_1 c_v_1), .v (sl A_v_2 v_2 c_v_2)]) (evs := [ld b2 0 (sl A_v_0 v_0 c_v_0), ld b2 1 (sl A_v_1 v_1 c_v_1), ld b2 2 (sl A_v_2 v_2 c_v_2)]) (v := .agg #[sl A_v_0 v_0 c_v_0, sl A_v_1 v_1 c_v_1, sl A_v_2 v_2 c_v_2]) ⟨by kernel_rfl⟩ (fun w_ hM => ⟨hM.cell 1 rfl rfl, hM.cell 1 rfl rfl, hM.cell 1 rfl rfl, rfl⟩) ?_
     refine ops_load (d := some 61) (an := [.v (sl A_w_0 w_0 c_w_0), .v (sl A_w_1 w_1 c_w_1), .v (sl A_w_2 w_2 c_w_2)]) (evs := [ld b1 0 (sl A_w_0 w_0 c_w_0), ld b1 1 (sl A_w_1 w_1 c_w_1), ld b1 2 (sl A_w_2 w_2 c_w_2)]) (v := .agg #[sl A_w_0 w_0 c_w_0, sl A_w_1 w_1 c_w_1, sl A_w_2 w_2 c_w_2]) ⟨by kernel_rfl⟩ (fun w_ hM => ⟨hM.cell 0 rfl rfl, hM.cell 0 rfl rfl, hM.cell 0 rfl rfl, rfl⟩) ?_
     refine ops_load (d := some 62) (an := [.v (sl A_v_0 v_0 c_v_0), .v (sl A_v_1 v_1 c_v_1), .v (sl A_v_2 v_2 c_v_2)]) (evs := [ld b2 0 (sl A_v_0 v_0 c_v_0), ld b2 1 (sl A_v_1 v_1 c_v_1), ld b2 2 (sl A_v_2 v_2 c_v_2)]) (v := .agg #[sl A_v_0 v_0 c_v_0, sl A_v_1 v_1 c_v_1, sl A_v_2 v_2 c_v_2]) ⟨by kernel_rfl⟩ (fun w_ hM => ⟨hM.cell 1 rfl rfl, hM.cell 1 rfl rfl, hM.cell 1 rfl rfl, rfl⟩) ?_
     obtain ⟨x59, hv60, hp⟩ := obind hp
     refine ops_callI (σ := Unit) (d := some 60) (f := 49) (args := #[.agg #[sl A_w_0 w_0 c_w_0, sl A_w_1 w_1 c_w_1, sl A_w_2 w_2 c_w_2], .agg #[sl A_v_0 v_0 c_v_0, sl A_v_1 v_1 c_v_1, sl A_v_2 v_2 c_v_2]]) (v := (fun _ => .bool x59)) (I := (fun _ => True)) (M' := (fun _ => Mem w0 (.blk b1 [sl A_w_0 w_0 c_w_0, sl A_w_1 w_1 c_w_1, sl A_w_2 w_2 c_w_2] 71 :: .blk b2 [sl A_v_0 v_0 c_v_0, sl A_v_1 v_1 c_v_1, sl A_v_2 v_2 c_v_2] 71 :: Fz F54 W55 :: cs))) ⟨by kernel_rfl⟩ (fun w_ hM hS => (world_Same_ok w0 w_ (.blk b1 [sl A_w_0 w_0 c_w_0, sl A_w_1 w_1 c_w_1, sl A_w_2 w_2 c_w_2] 71 :: .blk b2 [sl A_v_0 v_0 c_v_0, sl A_v_1 v_1 c_v_1, sl A_v_2 v_2 c_v_2] 71 :: cs) F54 W55 A_w_0 c_w_0 w_0 A_w_1 c_w_1 w_1 A_w_2 c_w_2 w_2 A_v_0 c_v_0 v_0 A_v_1 c_v_1 v_1 A_v_2 c_v_2 v_2 (hM.pick 3 [2, 0, 1] (by kernel_rfl) (by decide) rfl) h_w_0 h_w_1 h_w_2 h_v_0 h_v_1 h_v_2 x59 hv60).mono (by rintro e w' ⟨-, rfl, h'⟩; have h' : Mem w0 (.blk b1 [sl A_w_0 w_0 c_w_0, sl A_w_1 w_1 c_w_1, sl A_w_2 w_2 c_w_2] 71 :: .blk b2 [sl A_v_0 v_0 c_v_0, sl A_v_1 v_1 c_v_1, sl A_v_2 v_2 c_v_2] 71 :: Fz F54 W55 :: cs) w' := (h'.pick 3 [1, 2, 0] (by kernel_rfl) (by decide) rfl); exact ⟨(), trivial, rfl, h', (by exact h'.sub (.cons_cons _ (.cons_cons _ (.cons_cons _ (.refl _)))))⟩)) ?_
     rintro _ -
     obtain ⟨x61, hv62, hp⟩ := obind hp
     refine ops_callI (σ := Unit) (d := some 63) (f := 48) (args := #[.agg #[sl A_w_0 w_0 c_w_0, sl A_w_1 w_1 c_w_1, sl A_w_2 w_2 c_w_2], .agg #[sl A_v_0 v_0 c_v_0, sl A_v_1 v_1 c_v_1, sl A_v_2 v_2 c_v_2]]) (v := (fun _ => .bool x61)) (I := (fun _ => True)) (M' := (fun _ => Mem w0 (.blk b1 [sl A_w_0 w_0 c_w_0, sl A_w_1 w_1 c_w_1, sl A_w_2 w_2 c_w_2] 71 :: .blk b2 [sl A_v_0 v_0 c_v_0, sl A_v_1 v_1 c_v_1, sl A_v_2 v_2 c_v_2] 71 :: Fz F54 W55 :: cs))) ⟨by kernel_rfl⟩ (fun w_ hM hS => (tourref3_SameWorld_ok w0 w_ (.blk b1 [sl A_w_0 w_0 c_w_0, sl A_w_1 w_1 c_w_1, sl A_w_2 w_2 c_w_2] 71 :: .blk b2 [sl A_v_0 v_0 c_v_0, sl A_v_1 v_1 c_v_1, sl A_v_2 v_2 c_v_2] 71 :: cs) F54 W55 A_w_0 c_w_0 w_0 A_w_1 c_w_1 w_1 A_w_2 c_w_2 w_2 A_v_0 c_v_0 v_0 A_v_1 c_v_1 v_1 A_v_2 c_v_2 v_2 (hM.pick 3 [2, 0, 1] (by kernel_rfl) (by decide) rfl) h_w_0 h_w_1 h_w_2 h_v_0 h_v_1 h_v_2 x61 hv62).mono (by rintro e w' ⟨-, rfl, h'⟩; have h' : Mem w0 (.blk b1 [sl A_w_0 w_0 c_w_0, sl A_w_1 w_1 c_w_1, sl A_w_2 w_2 c_w_2] 71 :: .blk b2 [sl A_v_0 v_0 c_v_0, sl A_v_1 v_1 c_v_1, sl A_v_2 v_2 c_v_2] 71 :: Fz F54 W55 :: cs) w' := (h'.pick 3 [1, 2, 0] (by kernel_rfl) (by decide) rfl); exact ⟨(), trivial, rfl, h', (by exact h'.sub (.cons_cons _ (.cons_cons _ (.cons_cons _ (.refl _)))))⟩)) ?_
     rintro _ -
     refine oQ [oT 6, oT 7] [(65, .bool (!(x59 == x61))), (2, vP b1 0), (6, vI i45)] (by kernel_rfl) ?_
     refine ops_bool (t := !(x59 == x61)) (l1 := [(65, .bool true), (2, vP b1 0), (6, vI i45)]) (l2 := [(65, .bool false), (2, vP b1 0), (6, vI i45)]) (fun h => by rw [h]) (fun h => by rw [h]) (fun hc63 => ?_) (fun hc63 => ?_)
     ·
      have hp := cnd_t hc63 hp
      refine oQ [oT 8, oT 9, oF 10, oT 11, oT 12, oT 13, oT 14, oT 16, oF 15, oF 17, oT 18, oT 19] [(77, .bool true), (2, vP b1 0), (6, vI i45)] (by kernel_rfl) ?_
      refine ops_nil (fin_then (st_true rfl (st_seq (st_region [oF 0] (by rfl) ?_))))
      refine oQ [oF 0] [(4, .bool false)] (by kernel_rfl) ?_
      refine ops_nil (fin_then (st_ret (fin_ret_then ?_)))
      have hq_ := Option.some.inj hp
      have hr0_ := hq_
      subst hr0_
      refine fin_ret [.tmp 4] [.bool false] rfl rfl (fun w_ hM => (.tmp rfl .nil)) (fun w_ hM => ?_)
      exact ⟨F54, W55, (((h18.trans h37).trans hx1).trans h57), rfl, hM.pick 3 [2] (by kernel_rfl) (by decide) rfl⟩
     ·
      have hp := cnd_f hc63 hp
      refine ops_load (d := some 66) (an := [.v (sl A_w_0 w_0 c_w_0), .v (sl A_w_1 w_1 c_w_1), .v (sl A_w_2 w_2 c_w_2)]) (evs := [ld b1 0 (sl A_w_0 w_0 c_w_0), ld b1 1 (sl A_w_1 w_1 c_w_1), ld b1 2 (sl A_w_2 w_2 c_w_2)]) (v := .agg #[sl A_w_0 w_0 c_w_0, sl A_w_1 w_1 c_w_1, sl A_w_2 w_2 c_w_2]) ⟨by kernel_rfl⟩ (fun w_ hM => ⟨hM.cell 0 rfl rfl, hM.cell 0 rfl rfl, hM.cell 0 rfl rfl, rfl⟩) ?_
      refine ops_load (d := some 67) (an := [.v (sl A_w_0 w_0 c_w_0), .v (sl A_w_1 w_1 c_w_1), .v (sl A_w_2 w_2 c_w_2)]) (evs := [ld b1 0 (sl A_w_0 w_0 c_w_0), ld b1 1 (sl A_w_1 w_1 c_w_1), ld b1 2 (sl A_w_2 w_2 c_w_2)]) (v := .agg #[sl A_w_0 w_0 c_w_0, sl A_w_1 w_1 c_w_1, sl A_w_2 w_2 c_w_2]) ⟨by kernel_rfl⟩ (fun w_ hM => ⟨hM.cell 0 rfl rfl, hM.cell 0 rfl rfl, hM.cell 0 rfl rfl, rfl⟩) ?_
      obtain ⟨x64, hv65, hp⟩ := obind hp
      refine ops_callI (σ := Unit) (d := some 68) (f := 49) (args := #[.agg #[sl A_w_0 w_0 c_w_0, sl A_w_1 w_1 c_w_1, sl A_w_2 w_2 c_w_2], .agg #[sl A_w_0 w_0 c_w_0, sl A_w_1 w_1 c_w_1, sl A_w_2 w_2 c_w_2]]) (v := (fun _ => .bool x64)) (I := (fun _ => True)) (M' := (fun _ => Mem w0 (.blk b1 [sl A_w_0 w_0 c_w_0, sl A_w_1 w_1 c_w_1, sl A_w_2 w_2 c_w_2] 71 :: .blk b2 [sl A_v_0 v_0 c_v_0, sl A_v_1 v_1 c_v_1, sl A_v_2 v_2 c_v_2] 71 :: Fz F54 W55 :: cs))) ⟨by kernel_rfl⟩ (fun w_ hM hS => (world_Same_ok w0 w_ (.blk b1 [sl A_w_0 w_0 c_w_0, sl A_w_1 w_1 c_w_1, sl A_w_2 w_2 c_w_2] 71 :: .blk b2 [sl A_v_0 v_0 c_v_0, sl A_v_1 v_1 c_v_1, sl A_v_2 v_2 c_v_2] 71 :: cs) F54 W55 A_w_0 c_w_0 w_0 A_w_1 c_w_1 w_1 A_w_2 c_w_2 w_2 A_w_0 c_w_0 w_0 A_w_1 c_w_1 w_1 A_w_2 c_w_2 w_2 (hM.pick 3 [2, 0, 1] (by kernel_rfl) (by decide) rfl) h_w_0 h_w_1 h_w_2 h_w_0 h_w_1 h_w_2 x64 hv65).mono (by rintro e w' ⟨-, rfl, h'⟩; have h' : Mem w0 (.blk b1 [sl A_w_0 w_0 c_w_0, sl A_w_1 w_1 c_w_1, sl A_w_2 w_2 c_w_2] 71 :: .blk b2 [sl A_v_0 v_0 c_v_0, sl A_v_1 v_1 c_v_1, sl A_v_2 v_2 c_v_2] 71 :: Fz F54 W55 :: cs) w' := (h'.pick 3 [1, 2, 0] (by kernel_rfl) (by decide) rfl); exact ⟨(), trivial, rfl, h', (by exact h'.sub (.cons_cons _ (.cons_cons _ (.cons_cons _ (.refl _)))))⟩)) ?_
      rintro _ -
      refine oQ [oT 11, oT 12, oT 13] [(71, .bool (!x64)), (2, vP b1 0), (6, vI i45)] (by kernel_rfl) ?_
      refine ops_bool (t := !x64) (l1 := [(71, .bool true), (2, vP b1 0), (6, vI i45)]) (l2 := [(71, .bool false), (2, vP b1 0), (6, vI i45)]) (fun h => by rw [h]) (fun h => by rw [h]) (fun hc66 => ?_) (fun hc66 => ?_)
      ·
       have hp := cnd_t hc66 hp
       refine oQ [oT 14, oT 16, oF 15, oF 17, oT 18, oT 19] [(77, .bool true), (2, vP b1 0), (6, vI i45)] (by kernel_rfl) ?_
       refine ops_nil (fin_then (st_true rfl (st_seq (st_region [oF 0] (by rfl) ?_))))
       refine oQ [oF 0] [(4, .bool false)] (by kernel_rfl) ?_
       refine ops_nil (fin_then (st_ret (fin_ret_then ?_)))
       have hq_ := Option.some.inj hp
       have hr0_ := hq_
       subst hr0_
       refine fin_ret [.tmp 4] [.bool false] rfl rfl (fun w_ hM => (.tmp rfl .nil)) (fun w_ hM => ?_)
       exact ⟨F54, W55, (((h18.trans h37).trans hx1).trans h57), rfl, hM.pick 3 [2] (by kernel_rfl) (by decide) rfl⟩
      ·
       have hp := cnd_f hc66 hp
       refine ops_load (d := some 72) (an := [.v (sl A_w_0 w_0 c_w_0), .v (sl A_w_1 w_1 c_w_1), .v (sl A_w_2 w_2 c_w_2)]) (evs := [ld b1 0 (sl A_w_0 w_0 c_w_0), ld b1 1 (sl A_w_1 w_1 c_w_1), ld b1 2 (sl A_w_2 w_2 c_w_2)]) (v := .agg #[sl A_w_0 w_0 c_w_0, sl A_w_1 w_1 c_w_1, sl A_w_2 w_2 c_w_2]) ⟨by kernel_rfl⟩ (fun w_ hM => ⟨hM.cell 0 rfl rfl, hM.cell 0 rfl rfl, hM.cell 0 rfl rfl, rfl⟩) ?_
       refine ops_load (d := some 74) (an := [.v (sl A_w_0 w_0 c_w_0), .v (sl A_w_1 w_1 c_w_1), .v (sl A_w_2 w_2 c_w_2)]) (evs := [ld b1 0 (sl A_w_0 w_0 c_w_0), ld b1 1 (sl A_w_1 w_1 c_w_1), ld b1 2 (sl A_w_2 w_2 c_w_2)]) (v := .agg #[sl A_w_0 w_0 c_w_0, sl A_w_1 w_1 c_w_1, sl A_w_2 w_2 c_w_2]) ⟨by kernel_rfl⟩ (fun w_ hM => ⟨hM.cell 0 rfl rfl, hM.cell 0 rfl rfl, hM.cell 0 rfl rfl, rfl⟩) ?_
       obtain ⟨x67, x68, x69, hv70, hp⟩ := obind3 hp
       refine ops_callI (σ := (Option Addr) × Nat × (List Value) × (Option Addr) × Nat × (List Value) × (Option Addr) × Nat × (List Value) × (Nat → Prop) × World) (d := some 73) (f := 50) (args := #[.agg #[sl A_w_0 w_0 c_w_0, sl A_w_1 w_1 c_w_1, sl A_w_2 w_2 c_w_2]]) (v := (fun x_ => match x_ with | (A71, c72, y73, A74, c75, y76, A77, c78, y79, F80, W81) => .agg #[sl A71 x67 c72, sl A74 x68 c75, sl A77 x69 c78])) (I := (fun x_ => match x_ with | (A71, c72, y73, A74, c75, y76, A77, c78, y79, F80, W81) => (RepL R_api_Kind F80 W81 x67 y73) ∧ (RepL (Rep.int .i64) F80 W81 x68 y76) ∧ (RepL R_api_Item F80 W81 x69 y79) ∧ (Ext w0 F54 W55 F80 W81))) (M' := (fun x_ => match x_ with | (A71, c72, y73, A74, c75, y76, A77, c78, y79, F80, W81) => Mem w0 (ow A71 x67 c72 27 2 y73 :: ow A74 x68 c75 3 1 y76 :: ow A77 x69 c78 115 3 y79 :: .blk b1 [sl A_w_0 w_0 c_w_0, sl A_w_1 w_1 c_w_1, sl A_w_2 w_2 c_w_2] 71 :: .blk b2 [sl A_v_0 v_0 c_v_0, sl A_v_1 v_1 c_v_1, sl A_v_2 v_2 c_v_2] 71 :: Fz F80 W81 :: cs))) ⟨by kernel_rfl⟩ (fun w_ hM hS => (world_Copy_ok w0 w_ (.blk b1 [sl A_w_0 w_0 c_w_0, sl A_w_1 w_1 c_w_1, sl A_w_2 w_2 c_w_2] 71 :: .blk b2 [sl A_v_0 v_0 c_v_0, sl A_v_1 v_1 c_v_1, sl A_v_2 v_2 c_v_2] 71 :: cs) F54 W55 A_w_0 c_w_0 w_0 A_w_1 c_w_1 w_1 A_w_2 c_w_2 w_2 (hM.pick 3 [2, 0, 1] (by kernel_rfl) (by decide) rfl) h_w_0 h_w_1 h_w_2 x67 x68 x69 hv70).mono (by rintro e w' ⟨A71, c72, y73, A74, c75, y76, A77, c78, y79, F80, W81, ⟨h82, h83, h84, h85⟩, rfl, h'⟩; have h' : Mem w0 (ow A71 x67 c72 27 2 y73 :: ow A74 x68 c75 3 1 y76 :: ow A77 x69 c78 115 3 y79 :: .blk b1 [sl A_w_0 w_0 c_w_0, sl A_w_1 w_1 c_w_1, sl A_w_2 w_2 c_w_2] 71 :: .blk b2 [sl A_v_0 v_0 c_v_0, sl A_v_1 v_1 c_v_1, sl A_v_2 v_2 c_v_2] 71 :: Fz F80 W81 :: cs) w' := (h'.pick 6 [0, 1, 2, 4, 5, 3] (by kernel_rfl) (by decide) rfl); exact ⟨(A71, c72, y73, A74, c75, y76, A77, c78, y79, F80, W81), ⟨h82, h83, h84, h85⟩, rfl, h', (by first | exact (Mem.fzback h' 5 rfl h85).sub (.cons _ (.cons _ (.cons _ (.cons_cons _ (.cons_cons _ (.cons_cons _ (.refl _))))))) | exact (Mem.fzback h' 5 rfl (h57.trans h85)).sub (.cons _ (.cons _ (.cons _ (.cons_cons _ (.cons_cons _ (.cons_cons _ (.refl _))))))) | exact (Mem.fzback h' 5 rfl ((hx1.trans h57).trans h85)).sub (.cons _ (.cons _ (.cons _ (.cons_cons _ (.cons_cons _ (.cons_cons _ (.refl _))))))) | exact (Mem.fzback h' 5 rfl (((h37.trans hx1).trans h57).trans h85)).sub (.cons _ (.cons _ (.cons _ (.cons_cons _ (.cons_cons _ (.cons_cons _ (.refl _))))))) | exact (Mem.fzback h' 5 rfl ((((h18.trans h37).trans hx1).trans h57).trans h85)).sub (.cons _ (.cons _ (.cons _ (.cons_cons _ (.cons_cons _ (.cons_cons _ (.refl _))))))))⟩)) ?_
       rintro ⟨A71, c72, y73, A74, c75, y76, A77, c78, y79, F80, W81⟩ ⟨h82, h83, h84, h85⟩
       have h_w_0 := h_w_0.ext h85
       have h_w_1 := h_w_1.ext h85
       have h_w_2 := h_w_2.ext h85
       have h_v_0 := h_v_0.ext h85
       have h_v_1 := h_v_1.ext h85
       have h_v_2 := h_v_2.ext h85
       obtain ⟨x86, hv87, hp⟩ := obind hp
       refine ops_callI (σ := Unit) (d := some 75) (f := 48) (args := #[.agg #[sl A71 x67 c72, sl A74 x68 c75, sl A77 x69 c78], .agg #[sl A_w_0 w_0 c_w_0, sl A_w_1 w_1 c_w_1, sl A_w_2 w_2 c_w_2]]) (v := (fun _ => .bool x86)) (I := (fun _ => True)) (M' := (fun _ => Mem w0 (ow A71 x67 c72 27 2 y73 :: ow A74 x68 c75 3 1 y76 :: ow A77 x69 c78 115 3 y79 :: .blk b1 [sl A_w_0 w_0 c_w_0, sl A_w_1 w_1 c_w_1, sl A_w_2 w_2 c_w_2] 71 :: .blk b2 [sl A_v_0 v_0 c_v_0, sl A_v_1 v_1 c_v_1, sl A_v_2 v_2 c_v_2] 71 :: Fz F80 W81 :: cs))) ⟨by kernel_rfl⟩ (fun w_ hM hS => (tourref3_SameWorld_ok w_ w_ [] (fun b => b < w_.heap.size) w_ A71 c72 x67 A74 c75 x68 A77 c78 x69 A_w_0 c_w_0 w_0 A_w_1 c_w_1 w_1 A_w_2 c_w_2 w_2 (Mem.fz0 w_) (hM.ordS 0 5 rfl rfl h82 rfl rfl) (hM.ordS 1 5 rfl rfl h83 rfl rfl) (hM.ordS 2 5 rfl rfl h84 rfl rfl) (hM.now 5 rfl h_w_0) (hM.now 5 rfl h_w_1) (hM.now 5 rfl h_w_2) x86 hv87).mono (by rintro e w' ⟨-, rfl, h'⟩; have h' : Mem w_ [] w' := h'.pick 1 [] (by kernel_rfl) (by decide) rfl; exact ⟨(), trivial, rfl, hM.join h' rfl, (hS.step h'.below)⟩)) ?_
       rintro _ -
       refine oQ [oT 18, oT 19] [(77, .bool (!x86)), (2, vP b1 0), (6, vI i45)] (by kernel_rfl) ?_
       refine ops_nil (fin_then ?_)
       refine st_if (b := !x86) rfl (fun hc88 => ?_) (fun hc88 => ?_)
       ·
        have hp := cnd_t hc88 hp
        refine st_seq (st_region [oF 0] (by rfl) ?_)
        refine oQ [oF 0] [(4, .bool false)] (by kernel_rfl) ?_
        refine ops_nil (fin_then (st_ret (fin_ret_then ?_)))
        have hq_ := Option.some.inj hp
        have hr0_ := hq_
        subst hr0_
        refine fin_ret [.tmp 4] [.bool false] rfl rfl (fun w_ hM => (.tmp rfl .nil)) (fun w_ hM => ?_)
        exact ⟨F80, W81, ((((h18.trans h37).trans hx1).trans h57).trans h85), rfl, hM.pick 6 [5] (by kernel_rfl) (by decide) rfl⟩
       ·
        have hp := cnd_f hc88 hp
        refine st_skip (fin_then ?_)
        refine st_join1 (σ := Bool × (Nat → Prop) × World) (L := fun x_ => match x_ with | (t89, F90, W91) => [(4, .bool t89)]) (N := fun x_ => match x_ with | (t89, F90, W91) => Mem w0 (Fz F90 W91 :: cs)) (I := fun x_ => match x_ with | (t89, F90, W91) => (tourlaw3_WorldChecks_j3 t89 = some t9001) ∧ (Ext w0 F80 W81 F90 W91)) ?_ ?_
        ·
         rintro ⟨t89, F90, W91⟩ ⟨hp, hx3⟩
         unfold tourlaw3_WorldChecks_j3 at hp
         refine st_ret ?_
         have hq_ := Option.some.inj hp
         have hr0_ := hq_
         subst hr0_
         refine fin_ret [.tmp 4] [.bool t89] rfl rfl (fun w_ hM => (.tmp rfl .nil)) (fun w_ hM => ?_)
         exact ⟨F90, W91, (((((h18.trans h37).trans hx1).trans h57).trans h85).trans hx3), rfl, hM⟩
        ·
         intro HJ3
         refine st_seq ?_
         refine st_region_fast tourlaw3_WorldChecks__t1 [oT 0, oT 2, oF 1, oT 3, oT 4, oT 5, oT 7, oF 6, oF 8, oF 9, oT 10, oT 11, oT 12, oT 14, oF 13, oF 15, oF 16, oT 17, oT 18, oT 19] (Mem w0 (ow A71 x67 c72 27 2 y73 :: ow A74 x68 c75 3 1 y76 :: ow A77 x69 c78 115 3 y79 :: .blk b1 [sl A_w_0 w_0 c_w_0, sl A_w_1 w_1 c_w_1, sl A_w_2 w_2 c_w_2] 71 :: .blk b2 [sl A_v_0 v_0 c_v_0, sl A_v_1 v_1 c_v_1, sl A_v_2 v_2 c_v_2] 71 :: Fz F80 W81 :: cs)) (by kernel_rfl) (by kernel_rfl) (by kernel_rfl) (by kernel_rfl) (by kernel_rfl) (fun _ d _ _ _ h => by cases d <;> exact h) (M' := Mem w0 (ow A71 x67 c72 27 2 y73 :: ow A74 x68 c75 3 1 y76 :: ow A77 x69 c78 115 3 y79 :: .blk b1 [sl A_w_0 w_0 c_w_0, sl A_w_1 w_1 c_w_1, sl A_w_2 w_2 c_w_2] 71 :: .blk b2 [sl A_v_0 v_0 c_v_0, sl A_v_1 v_1 c_v_1, sl A_v_2 v_2 c_v_2] 71 :: Fz F80 W81 :: cs)) (fun w_ hM => ⟨hM.drew, hM.drew.sub (.cons_cons _ (.cons_cons _ (.cons_cons _ (.cons_cons _ (.cons_cons _ (.cons_cons _ (.refl _)))))))⟩) ?_
         refine ops_load (d := some 78) (an := [.v (sl A_w_0 w_0 c_w_0), .v (sl A_w_1 w_1 c_w_1), .v (sl A_w_2 w_2 c_w_2)]) (evs := [ld b1 0 (sl A_w_0 w_0 c_w_0), ld b1 1 (sl A_w_1 w_1 c_w_1), ld b1 2 (sl A_w_2 w_2 c_w_2)]) (v := .agg #[sl A_w_0 w_0 c_w_0, sl A_w_1 w_1 c_w_1, sl A_w_2 w_2 c_w_2]) ⟨by kernel_rfl⟩ (fun w_ hM => ⟨hM.cell 3 rfl rfl, hM.cell 3 rfl rfl, hM.cell 3 rfl rfl, rfl⟩) ?_
         refine oQ [oT 2] [(80, vI i45), (78, .agg #[sl A_w_0 w_0 c_w_0, sl A_w_1 w_1 c_w_1, sl A_w_2 w_2 c_w_2]), (2, vP b1 0)] (by kernel_rfl) ?_
         obtain ⟨x92, hv93, hp⟩ := obind hp
         refine ops_callI (σ := Unit) (d := some 79) (f := 43) (args := #[.agg #[sl A_w_0 w_0 c_w_0, sl A_w_1 w_1 c_w_1, sl A_w_2 w_2 c_w_2]]) (v := (fun _ => vI x92)) (I := (fun _ => True)) (M' := (fun _ => Mem w0 (ow A71 x67 c72 27 2 y73 :: ow A74 x68 c75 3 1 y76 :: ow A77 x69 c78 115 3 y79 :: .blk b1 [sl A_w_0 w_0 c_w_0, sl A_w_1 w_1 c_w_1, sl A_w_2 w_2 c_w_2] 71 :: .blk b2 [sl A_v_0 v_0 c_v_0, sl A_v_1 v_1 c_v_1, sl A_v_2 v_2 c_v_2] 71 :: Fz F80 W81 :: cs))) ⟨by kernel_rfl⟩ (fun w_ hM hS => (world_Check_ok w0 w_ (ow A71 x67 c72 27 2 y73 :: ow A74 x68 c75 3 1 y76 :: ow A77 x69 c78 115 3 y79 :: .blk b1 [sl A_w_0 w_0 c_w_0, sl A_w_1 w_1 c_w_1, sl A_w_2 w_2 c_w_2] 71 :: .blk b2 [sl A_v_0 v_0 c_v_0, sl A_v_1 v_1 c_v_1, sl A_v_2 v_2 c_v_2] 71 :: cs) F80 W81 A_w_0 c_w_0 w_0 A_w_1 c_w_1 w_1 A_w_2 c_w_2 w_2 (hM.pick 6 [5, 0, 1, 2, 3, 4] (by kernel_rfl) (by decide) rfl) h_w_0 h_w_1 h_w_2 x92 hv93).mono (by rintro e w' ⟨-, rfl, h'⟩; have h' : Mem w0 (ow A71 x67 c72 27 2 y73 :: ow A74 x68 c75 3 1 y76 :: ow A77 x69 c78 115 3 y79 :: .blk b1 [sl A_w_0 w_0 c_w_0, sl A_w_1 w_1 c_w_1, sl A_w_2 w_2 c_w_2] 71 :: .blk b2 [sl A_v_0 v_0 c_v_0, sl A_v_1 v_1 c_v_1, sl A_v_2 v_2 c_v_2] 71 :: Fz F80 W81 :: cs) w' := (h'.pick 6 [1, 2, 3, 4, 5, 0] (by kernel_rfl) (by decide) rfl); exact ⟨(), trivial, rfl, h', (by exact h'.sub (.cons_cons _ (.cons_cons _ (.cons_cons _ (.cons_cons _ (.cons_cons _ (.cons_cons _ (.refl _))))))))⟩)) ?_
         rintro _ -
         refine oQ [oT 3, oT 4] [(82, .bool (x92 == i45)), (2, vP b1 0)] (by kernel_rfl) ?_
         refine ops_bool (t := (x92 == i45)) (l1 := [(82, .bool true), (2, vP b1 0)]) (l2 := [(82, .bool false), (2, vP b1 0)]) (fun h => by rw [h]) (fun h => by rw [h]) (fun hc94 => ?_) (fun hc94 => ?_)
         ·
          have hp := cnd_t hc94 hp
          refine ops_load (d := some 83) (an := [.v (sl A_w_0 w_0 c_w_0), .v (sl A_w_1 w_1 c_w_1), .v (sl A_w_2 w_2 c_w_2)]) (evs := [ld b1 0 (sl A_w_0 w_0 c_w_0), ld b1 1 (sl A_w_1 w_1 c_w_1), ld b1 2 (sl A_w_2 w_2 c_w_2)]) (v := .agg #[sl A_w_0 w_0 c_w_0, sl A_w_1 w_1 c_w_1, sl A_w_2 w_2 c_w_2]) ⟨by kernel_rfl⟩ (fun w_ hM => ⟨hM.cell 3 rfl rfl, hM.cell 3 rfl rfl, hM.cell 3 rfl rfl, rfl⟩) ?_
          refine ops_load (d := some 85) (an := [.v (sl A_w_0 w_0 c_w_0), .v (sl A_w_1 w_1 c_w_1), .v (sl A_w_2 w_2 c_w_2)]) (evs := [ld b1 0 (sl A_w_0 w_0 c_w_0), ld b1 1 (sl A_w_1 w_1 c_w_1), ld b1 2 (sl A_w_2 w_2 c_w_2)]) (v := .agg #[sl A_w_0 w_0 c_w_0, sl A_w_1 w_1 c_w_1, sl A_w_2 w_2 c_w_2]) ⟨by kernel_rfl⟩ (fun w_ hM => ⟨hM.cell 3 rfl rfl, hM.cell 3 rfl rfl, hM.cell 3 rfl rfl, rfl⟩) ?_
          obtain ⟨x95, hv96, hp⟩ := obind hp
          refine ops_callI (σ := (Option Addr) × Nat × (List Value)) (d := some 84) (f := 45) (args := #[.agg #[sl A_w_0 w_0 c_w_0, sl A_w_1 w_1 c_w_1, sl A_w_2 w_2 c_w_2]]) (v := (fun x_ => match x_ with | (A97, c98, y99) => sl A97 x95 c98)) (I := (fun x_ => match x_ with | (A97, c98, y99) => (RepL (Rep.int .i64) F80 W81 x95 y99))) (M' := (fun x_ => match x_ with | (A97, c98, y99) => Mem w0 (ow A97 x95 c98 3 1 y99 :: ow A71 x67 c72 27 2 y73 :: ow A74 x68 c75 3 1 y76 :: ow A77 x69 c78 115 3 y79 :: .blk b1 [sl A_w_0 w_0 c_w_0, sl A_w_1 w_1 c_w_1, sl A_w_2 w_2 c_w_2] 71 :: .blk b2 [sl A_v_0 v_0 c_v_0, sl A_v_1 v_1 c_v_1, sl A_v_2 v_2 c_v_2] 71 :: Fz F80 W81 :: cs))) ⟨by kernel_rfl⟩ (fun w_ hM hS => (world_Ints_ok w0 w_ (ow A71 x67 c72 27 2 y73 :: ow A74 x68 c75 3 1 y76 :: ow A77 x69 c78 115 3 y79 :: .blk b1 [sl A_w_0 w_0 c_w_0, sl A_w_1 w_1 c_w_1, sl A_w_2 w_2 c_w_2] 71 :: .blk b2 [sl A_v_0 v_0 c_v_0, sl A_v_1 v_1 c_v_1, sl A_v_2 v_2 c_v_2] 71 :: cs) F80 W81 A_w_0 c_w_0 w_0 A_w_1 c_w_1 w_1 A_w_2 c_w_2 w_2 (hM.pick 6 [5, 0, 1, 2, 3, 4] (by kernel_rfl) (by decide) rfl) h_w_0 h_w_1 h_w_2 x95 hv96).mono (by rintro e w' ⟨A97, c98, y99, h100, rfl, h'⟩; have h' : Mem w0 (ow A97 x95 c98 3 1 y99 :: ow A71 x67 c72 27 2 y73 :: ow A74 x68 c75 3 1 y76 :: ow A77 x69 c78 115 3 y79 :: .blk b1 [sl A_w_0 w_0 c_w_0, sl A_w_1 w_1 c_w_1, sl A_w_2 w_2 c_w_2] 71 :: .blk b2 [sl A_v_0 v_0 c_v_0, sl A_v_1 v_1 c_v_1, sl A_v_2 v_2 c_v_2] 71 :: Fz F80 W81 :: cs) w' := (h'.pick 7 [0, 2, 3, 4, 5, 6, 1] (by kernel_rfl) (by decide) rfl); exact ⟨(A97, c98, y99), h100, rfl, h', (by exact h'.sub (.cons _ (.cons_cons _ (.cons_cons _ (.cons_cons _ (.cons_cons _ (.cons_cons _ (.cons_cons _ (.refl _)))))))))⟩)) ?_
          rintro ⟨A97, c98, y99⟩ h100
          obtain ⟨x101, hv102, hp⟩ := obind hp
          refine ops_callI (σ := (Option Addr) × Nat × (List Value) × (Nat → Prop) × World) (d := some 86) (f := 51) (args := #[.agg #[sl A_w_0 w_0 c_w_0, sl A_w_1 w_1 c_w_1, sl A_w_2 w_2 c_w_2]]) (v := (fun x_ => match x_ with | (A103, c104, y105, F106, W107) => sl A103 x101 c104)) (I := (fun x_ => match x_ with | (A103, c104, y105, F106, W107) => (RepL (Rep.int .i64) F106 W107 x101 y105) ∧ (Ext w0 F80 W81 F106 W107))) (M' := (fun x_ => match x_ with | (A103, c104, y105, F106, W107) => Mem w0 (ow A103 x101 c104 3 1 y105 :: ow A97 x95 c98 3 1 y99 :: ow A71 x67 c72 27 2 y73 :: ow A74 x68 c75 3 1 y76 :: ow A77 x69 c78 115 3 y79 :: .blk b1 [sl A_w_0 w_0 c_w_0, sl A_w_1 w_1 c_w_1, sl A_w_2 w_2 c_w_2] 71 :: .blk b2 [sl A_v_0 v_0 c_v_0, sl A_v_1 v_1 c_v_1, sl A_v_2 v_2 c_v_2] 71 :: Fz F106 W107 :: cs))) ⟨by kernel_rfl⟩ (fun w_ hM hS => (tourref3_Described_ok w0 w_ (ow A97 x95 c98 3 1 y99 :: ow A71 x67 c72 27 2 y73 :: ow A74 x68 c75 3 1 y76 :: ow A77 x69 c78 115 3 y79 :: .blk b1 [sl A_w_0 w_0 c_w_0, sl A_w_1 w_1 c_w_1, sl A_w_2 w_2 c_w_2] 71 :: .blk b2 [sl A_v_0 v_0 c_v_0, sl A_v_1 v_1 c_v_1, sl A_v_2 v_2 c_v_2] 71 :: cs) F80 W81 A_w_0 c_w_0 w_0 A_w_1 c_w_1 w_1 A_w_2 c_w_2 w_2 (hM.pick 7 [6, 0, 1, 2, 3, 4, 5] (by kernel_rfl) (by decide) rfl) h_w_0 h_w_1 h_w_2 x101 hv102).mono (by rintro e w' ⟨A103, c104, y105, F106, W107, ⟨h108, h109⟩, rfl, h'⟩; have h' : Mem w0 (ow A103 x101 c104 3 1 y105 :: ow A97 x95 c98 3 1 y99 :: ow A71 x67 c72 27 2 y73 :: ow A74 x68 c75 3 1 y76 :: ow A77 x69 c78 115 3 y79 :: .blk b1 [sl A_w_0 w_0 c_w_0, sl A_w_1 w_1 c_w_1, sl A_w_2 w_2 c_w_2] 71 :: .blk b2 [sl A_v_0 v_0 c_v_0, sl A_v_1 v_1 c_v_1, sl A_v_2 v_2 c_v_2] 71 :: Fz F106 W107 :: cs) w' := (h'.pick 8 [0, 2, 3, 4, 5, 6, 7, 1] (by kernel_rfl) (by decide) rfl); exact ⟨(A103, c104, y105, F106, W107), ⟨h108, h109⟩, rfl, h', (by first | exact (Mem.fzback h' 7 rfl h109).sub (.cons _ (.cons _ (.cons_cons _ (.cons_cons _ (.cons_cons _ (.cons_cons _ (.cons_cons _ (.cons_cons _ (.refl _))))))))) | exact (Mem.fzback h' 7 rfl (h85.trans h109)).sub (.cons _ (.cons _ (.cons_cons _ (.cons_cons _ (.cons_cons _ (.cons_cons _ (.cons_cons _ (.cons_cons _ (.refl _))))))))) | exact (Mem.fzback h' 7 rfl ((h57.trans h85).trans h109)).sub (.cons _ (.cons _ (.cons_cons _ (.cons_cons _ (.cons_cons _ (.cons_cons _ (.cons_cons _ (.cons_cons _ (.refl _))))))))) | exact (Mem.fzback h' 7 rfl (((hx1.trans h57).trans h85).trans h109)).sub (.cons _ (.cons _ (.cons_cons _ (.cons_cons _ (.cons_cons _ (.cons_cons _ (.cons_cons _ (.cons_cons _ (.refl _))))))))) | exact (Mem.fzback h' 7 rfl ((((h37.trans hx1).trans h57).trans h85).trans h109)).sub (.cons _ (.cons _ (.cons_cons _ (.cons_cons _ (.cons_cons _ (.cons_cons _ (.cons_cons _ (.cons_cons _ (.refl _))))))))) | exact (Mem.fzback h' 7 rfl (((((h18.trans h37).trans hx1).trans h57).trans h85).trans h109)).sub (.cons _ (.cons _ (.cons_cons _ (.cons_cons _ (.cons_cons _ (.cons_cons _ (.cons_cons _ (.cons_cons _ (.refl _))))))))))⟩)) ?_
          rintro ⟨A103, c104, y105, F106, W107⟩ ⟨h108, h109⟩
          have h_w_0 := h_w_0.ext h109
          have h_w_1 := h_w_1.ext h109
          have h_w_2 := h_w_2.ext h109
          have h100 := h100.ext h109
          have h82 := h82.ext h109
          have h83 := h83.ext h109
          have h84 := h84.ext h109
          have h_v_0 := h_v_0.ext h109
          have h_v_1 := h_v_1.ext h109
          have h_v_2 := h_v_2.ext h109
          obtain ⟨x110, hv111, hp⟩ := obind hp
          refine ops_callI (σ := Unit) (d := some 87) (f := 15) (args := #[sl A97 x95 c98, sl A103 x101 c104]) (v := (fun _ => .bool x110)) (I := (fun _ => True)) (M' := (fun _ => Mem w0 (ow A103 x101 c104 3 1 y105 :: ow A97 x95 c98 3 1 y99 :: ow A71 x67 c72 27 2 y73 :: ow A74 x68 c75 3 1 y76 :: ow A77 x69 c78 115 3 y79 :: .blk b1 [sl A_w_0 w_0 c_w_0, sl A_w_1 w_1 c_w_1, sl A_w_2 w_2 c_w_2] 71 :: .blk b2 [sl A_v_0 v_0 c_v_0, sl A_v_1 v_1 c_v_1, sl A_v_2 v_2 c_v_2] 71 :: Fz F106 W107 :: cs))) ⟨by kernel_rfl⟩ (fun w_ hM hS => (slices_Equal_int_int_ok w_ w_ [] (fun b => b < w_.heap.size) w_ A97 c98 x95 A103 c104 x101 (Mem.fz0 w_) (hM.ordS 1 7 rfl rfl h100 rfl rfl) (hM.ordS 0 7 rfl rfl h108 rfl rfl) x110 hv111).mono (by rintro e w' ⟨-, rfl, h'⟩; have h' : Mem w_ [] w' := h'.pick 1 [] (by kernel_rfl) (by decide) rfl; exact ⟨(), trivial, rfl, hM.join h' rfl, (hS.step h'.below)⟩)) ?_
          rintro _ -
          refine oQ [oT 10, oT 11] [(89, .bool x110), (2, vP b1 0)] (by kernel_rfl) ?_
          refine ops_bool (t := x110) (l1 := [(89, .bool true), (2, vP b1 0)]) (l2 := [(89, .bool false), (2, vP b1 0)]) (fun h => by rw [h]) (fun h => by rw [h]) (fun hc112 => ?_) (fun hc112 => ?_)
          ·
           have hp := cnd_t hc112 hp
           refine ops_load (d := some 90) (an := [.v (sl A_w_0 w_0 c_w_0), .v (sl A_w_1 w_1 c_w_1), .v (sl A_w_2 w_2 c_w_2)]) (evs := [ld b1 0 (sl A_w_0 w_0 c_w_0), ld b1 1 (sl A_w_1 w_1 c_w_1), ld b1 2 (sl A_w_2 w_2 c_w_2)]) (v := .agg #[sl A_w_0 w_0 c_w_0, sl A_w_1 w_1 c_w_1, sl A_w_2 w_2 c_w_2]) ⟨by kernel_rfl⟩ (fun w_ hM => ⟨hM.cell 3 rfl rfl, hM.cell 3 rfl rfl, hM.cell 3 rfl rfl, rfl⟩) ?_
           refine ops_load (d := some 92) (an := [.v (sl A_w_0 w_0 c_w_0), .v (sl A_w_1 w_1 c_w_1), .v (sl A_w_2 w_2 c_w_2)]) (evs := [ld b1 0 (sl A_w_0 w_0 c_w_0), ld b1 1 (sl A_w_1 w_1 c_w_1), ld b1 2 (sl A_w_2 w_2 c_w_2)]) (v := .agg #[sl A_w_0 w_0 c_w_0, sl A_w_1 w_1 c_w_1, sl A_w_2 w_2 c_w_2]) ⟨by kernel_rfl⟩ (fun w_ hM => ⟨hM.cell 3 rfl rfl, hM.cell 3 rfl rfl, hM.cell 3 rfl rfl, rfl⟩) ?_
           obtain ⟨x113, hv114, hp⟩ := obind hp
           refine ops_callI (σ := Unit) (d := some 91) (f := 52) (args := #[.agg #[sl A_w_0 w_0 c_w_0, sl A_w_1 w_1 c_w_1, sl A_w_2 w_2 c_w_2]]) (v := (fun _ => vU x113)) (I := (fun _ => True)) (M' := (fun _ => Mem w0 (ow A103 x101 c104 3 1 y105 :: ow A97 x95 c98 3 1 y99 :: ow A71 x67 c72 27 2 y73 :: ow A74 x68 c75 3 1 y76 :: ow A77 x69 c78 115 3 y79 :: .blk b1 [sl A_w_0 w_0 c_w_0, sl A_w_1 w_1 c_w_1, sl A_w_2 w_2 c_w_2] 71 :: .blk b2 [sl A_v_0 v_0 c_v_0, sl A_v_1 v_1 c_v_1, sl A_v_2 v_2 c_v_2] 71 :: Fz F106 W107 :: cs))) ⟨by kernel_rfl⟩ (fun w_ hM hS => (world_Digest_ok w0 w_ (ow A103 x101 c104 3 1 y105 :: ow A97 x95 c98 3 1 y99 :: ow A71 x67 c72 27 2 y73 :: ow A74 x68 c75 3 1 y76 :: ow A77 x69 c78 115 3 y79 :: .blk b1 [sl A_w_0 w_0 c_w_0, sl A_w_1 w_1 c_w_1, sl A_w_2 w_2 c_w_2] 71 :: .blk b2 [sl A_v_0 v_0 c_v_0, sl A_v_1 v_1 c_v_1, sl A_v_2 v_2 c_v_2] 71 :: cs) F106 W107 A_w_0 c_w_0 w_0 A_w_1 c_w_1 w_1 A_w_2 c_w_2 w_2 (hM.pick 8 [7, 0, 1, 2, 3, 4, 5, 6] (by kernel_rfl) (by decide) rfl) h_w_0 h_w_1 h_w_2 x113 hv114).mono (by rintro e w' ⟨-, rfl, h'⟩; have h' : Mem w0 (ow A103 x101 c104 3 1 y105 :: ow A97 x95 c98 3 1 y99 :: ow A71 x67 c72 27 2 y73 :: ow A74 x68 c75 3 1 y76 :: ow A77 x69 c78 115 3 y79 :: .blk b1 [sl A_w_0 w_0 c_w_0, sl A_w_1 w_1 c_w_1, sl A_w_2 w_2 c_w_2] 71 :: .blk b2 [sl A_v_0 v_0 c_v_0, sl A_v_1 v_1 c_v_1, sl A_v_2 v_2 c_v_2] 71 :: Fz F106 W107 :: cs) w' := (h'.pick 8 [1, 2, 3, 4, 5, 6, 7, 0] (by kernel_rfl) (by decide) rfl); exact ⟨(), trivial, rfl, h', (by first | exact (Mem.fzback h' 7 rfl h109).sub (.cons _ (.cons _ (.cons_cons _ (.cons_cons _ (.cons_cons _ (.cons_cons _ (.cons_cons _ (.cons_cons _ (.refl _))))))))) | exact (Mem.fzback h' 7 rfl (h85.trans h109)).sub (.cons _ (.cons _ (.cons_cons _ (.cons_cons _ (.cons_cons _ (.cons_cons _ (.cons_cons _ (.cons_cons _ (.refl _))))))))) | exact (Mem.fzback h' 7 rfl ((h57.trans h85).trans h109)).sub (.cons _ (.cons _ (.cons_cons _ (.cons_cons _ (.cons_cons _ (.cons_cons _ (.cons_cons _ (.cons_cons _ (.refl _))))))))) | exact (Mem.fzback h' 7 rfl (((hx1.trans h57).trans h85).trans h109)).sub (.cons _ (.cons _ (.cons_cons _ (.cons_cons _ (.cons_cons _ (.cons_cons _ (.cons_cons _ (.cons_cons _ (.refl _))))))))) | exact (Mem.fzback h' 7 rfl ((((h37.trans hx1).trans h57).trans h85).trans h109)).sub (.cons _ (.cons _ (.cons_cons _ (.cons_cons _ (.cons_cons _ (.cons_cons _ (.cons_cons _ (.cons_cons _ (.refl _))))))))) | exact (Mem.fzback h' 7 rfl (((((h18.trans h37).trans hx1).trans h57).trans h85).trans h109)).sub (.cons _ (.cons _ (.cons_cons _ (.cons_cons _ (.cons_cons _ (.cons_cons _ (.cons_cons _ (.cons_cons _ (.refl _))))))))))⟩)) ?_
           rintro _ -
           obtain ⟨x115, hv116, hp⟩ := obind hp
           refine ops_callI (σ := (Option Addr) × Nat × (List Value) × (Nat → Prop) × World) (d := some 93) (f := 51) (args := #[.agg #[sl A_w_0 w_0 c_w_0, sl A_w_1 w_1 c_w_1, sl A_w_2 w_2 c_w_2]]) (v := (fun x_ => match x_ with | (A117, c118, y119, F120, W121) => sl A117 x115 c118)) (I := (fun x_ => match x_ with | (A117, c118, y119, F120, W121) => (RepL (Rep.int .i64) F120 W121 x115 y119) ∧ (Ext w0 F106 W107 F120 W121))) (M' := (fun x_ => match x_ with | (A117, c118, y119, F120, W121) => Mem w0 (ow A117 x115 c118 3 1 y119 :: ow A103 x101 c104 3 1 y105 :: ow A97 x95 c98 3 1 y99 :: ow A71 x67 c72 27 2 y73 :: ow A74 x68 c75 3 1 y76 :: ow A77 x69 c78 115 3 y79 :: .blk b1 [sl A_w_0 w_0 c_w_0, sl A_w_1 w_1 c_w_1, sl A_w_2 w_2 c_w_2] 71 :: .blk b2 [sl A_v_0 v_0 c_v_0, sl A_v_1 v_1 c_v_1, sl A_v_2 v_2 c_v_2] 71 :: Fz F120 W121 :: cs))) ⟨by kernel_rfl⟩ (fun w_ hM hS => (tourref3_Described_ok w0 w_ (ow A103 x101 c104 3 1 y105 :: ow A97 x95 c98 3 1 y99 :: ow A71 x67 c72 27 2 y73 :: ow A74 x68 c75 3 1 y76 :: ow A77 x69 c78 115 3 y79 :: .blk b1 [sl A_w_0 w_0 c_w_0, sl A_w_1 w_1 c_w_1, sl A_w_2 w_2 c_w_2] 71 :: .blk b2 [sl A_v_0 v_0 c_v_0, sl A_v_1 v_1 c_v_1, sl A_v_2 v_2 c_v_2] 71 :: cs) F106 W107 A_w_0 c_w_0 w_0 A_w_1 c_w_1 w_1 A_w_2 c_w_2 w_2 (hM.pick 8 [7, 0, 1, 2, 3, 4, 5, 6] (by kernel_rfl) (by decide) rfl) h_w_0 h_w_1 h_w_2 x115 hv116).mono (by rintro e w' ⟨A117, c118, y119, F120, W121, ⟨h122, h123⟩, rfl, h'⟩; have h' : Mem w0 (ow A117 x115 c118 3 1 y119 :: ow A103 x101 c104 3 1 y105 :: ow A97 x95 c98 3 1 y99 :: ow A71 x67 c72 27 2 y73 :: ow A74 x68 c75 3 1 y76 :: ow A77 x69 c78 115 3 y79 :: .blk b1 [sl A_w_0 w_0 c_w_0, sl A_w_1 w_1 c_w_1, sl A_w_2 w_2 c_w_2] 71 :: .blk b2 [sl A_v_0 v_0 c_v_0, sl A_v_1 v_1 c_v_1, sl A_v_2 v_2 c_v_2] 71 :: Fz F120 W121 :: cs) w' := (h'.pick 9 [0, 2, 3, 4, 5, 6, 7, 8, 1] (by kernel_rfl) (by decide) rfl); exact ⟨(A117, c118, y119, F120, W121), ⟨h122, h123⟩, rfl, h', (by first | exact (Mem.fzback h' 8 rfl h123).sub (.cons _ (.cons _ (.cons _ (.cons_cons _ (.cons_cons _ (.cons_cons _ (.cons_cons _ (.cons_cons _ (.cons_cons _ (.refl _)))))))))) | exact (Mem.fzback h' 8 rfl (h109.trans h123)).sub (.cons _ (.cons _ (.cons _ (.cons_cons _ (.cons_cons _ (.cons_cons _ (.cons_cons _ (.cons_cons _ (.cons_cons _ (.refl _)))))))))) | exact (Mem.fzback h' 8 rfl ((h85.trans h109).trans h123)).sub (.cons _ (.cons _ (.cons _ (.cons_cons _ (.cons_cons _ (.cons_cons _ (.cons_cons _ (.cons_cons _ (.cons_cons _ (.refl _)))))))))) | exact (Mem.fzback h' 8 rfl (((h57.trans h85).trans h109).trans h123)).sub (.cons _ (.cons _ (.cons _ (.cons_cons _ (.cons_cons _ (.cons_cons _ (.cons_cons _ (.cons_cons _ (.cons_cons _ (.refl _)))))))))) | exact (Mem.fzback h' 8 rfl ((((hx1.trans h57).trans h85).trans h109).trans h123)).sub (.cons _ (.cons _ (.cons _ (.cons_cons _ (.cons_cons _ (.cons_cons _ (.cons_cons _ (.cons_cons _ (.cons_cons _ (.refl _)))))))))) | exact (Mem.fzback h' 8 rfl (((((h37.trans hx1).trans h57).trans h85).trans h109).trans h123)).sub (.cons _ (.cons _ (.cons _ (.cons_cons _ (.cons_cons _ (.cons_cons _ (.cons_cons _ (.cons_cons _ (.cons_cons _ (.refl _)))))))))) | exact (Mem.fzback h' 8 rfl ((((((h18.trans h37).trans hx1).trans h57).trans h85).trans h109).trans h123)).sub (.cons _ (.cons _ (.cons _ (.cons_cons _ (.cons_cons _ (.cons_cons _ (.cons_cons _ (.cons_cons _ (.cons_cons _ (.refl _)))))))))))⟩)) ?_
           rintro ⟨A117, c118, y119, F120, W121⟩ ⟨h122, h123⟩
           have h_w_0 := h_w_0.ext h123
           have h_w_1 := h_w_1.ext h123
           have h_w_2 := h_w_2.ext h123
           have h108 := h108.ext h123
           have h100 := h100.ext h123
           have h82 := h82.ext h123
           have h83 := h83.ext h123
           have h84 := h84.ext h123
           have h_v_0 := h_v_0.ext h123
           have h_v_1 := h_v_1.ext h123
           have h_v_2 := h_v_2.ext h123
           obtain ⟨x124, hv125, hp⟩ := obind hp
           refine ops_callI (σ := Unit) (d := some 94) (f := 53) (args := #[sl A117 x115 c118]) (v := (fun _ => vU x124)) (I := (fun _ => True)) (M' := (fun _ => Mem w0 (ow A117 x115 c118 3 1 y119 :: ow A103 x101 c104 3 1 y105 :: ow A97 x95 c98 3 1 y99 :: ow A71 x67 c72 27 2 y73 :: ow A74 x68 c75 3 1 y76 :: ow A77 x69 c78 115 3 y79 :: .blk b1 [sl A_w_0 w_0 c_w_0, sl A_w_1 w_1 c_w_1, sl A_w_2 w_2 c_w_2] 71 :: .blk b2 [sl A_v_0 v_0 c_v_0, sl A_v_1 v_1 c_v_1, sl A_v_2 v_2 c_v_2] 71 :: Fz F120 W121 :: cs))) ⟨by kernel_rfl⟩ (fun w_ hM hS => (sum_Ints_ok w_ w_ [] (fun b => b < w_.heap.size) w_ A117 c118 x115 (Mem.fz0 w_) (hM.ordS 0 8 rfl rfl h122 rfl rfl) x124 hv125).mono (by rintro e w' ⟨-, rfl, h'⟩; have h' : Mem w_ [] w' := h'.pick 1 [] (by kernel_rfl) (by decide) rfl; exact ⟨(), trivial, rfl, hM.join h' rfl, (hS.step h'.below)⟩)) ?_
           rintro _ -
           refine oQ [oT 17, oT 18, oT 19] [(4, .bool (x113 == x124))] (by kernel_rfl) ?_
           refine ops_nil ?_
           exact fin_join HJ3 ((x113 == x124), F120, W121) ⟨hp, (h109.trans h123)⟩ (look_has ⟨rfl, trivial⟩) (fun w_ hM => hM.pick 9 [8] (by kernel_rfl) (by decide) rfl)
          ·
           have hp := cnd_f hc112 hp
           refine oQ [oT 12, oT 14, oF 13, oF 15, oF 16, oT 17, oT 18, oT 19] [(4, .bool false)] (by kernel_rfl) ?_
           refine ops_nil ?_
           exact fin_join HJ3 (false, F106, W107) ⟨hp, h109⟩ (look_has ⟨rfl, trivial⟩) (fun w_ hM => hM.pick 8 [7] (by kernel_rfl) (by decide) rfl)
         ·
          have hp := cnd_f hc94 hp
          refine oQ [oT 5, oT 7, oF 6, oF 8, oF 9, oT 10, oT 11, oT 12, oT 14, oF 13, oF 15, oF 16, oT 17, oT 18, oT 19] [(4, .bool false)] (by kernel_rfl) ?_
          refine ops_nil ?_
          exact fin_join HJ3 (false, F80, W81) ⟨hp, (Ext.refl _ _ _)⟩ (look_has ⟨rfl, trivial⟩) (fun w_ hM => hM.pick 6 [5] (by kernel_rfl) (by decide) rfl)
    ·
     intro HJ2
     refine st_seq (st_seq (st_region [oF 0, oF 1, oF 2, oF 3] (by rfl) ?_))
     refine oQ [oF 0] [(30, vP b1 0), (8, vI x49), (7, vP b58 0), (2, vP b1 0), (3, vP b2 0), (6, vI i45)] (by kernel_rfl) ?_
     refine ops_mem (d := some 31) (an := [.v (sl A_w_0 w_0 c_w_0)]) (evs := [ld b1 0 (sl A_w_0 w_0 c_w_0)]) (v := sl A_w_0 w_0 c_w_0) ⟨by kernel_rfl⟩ (fun w_ hM hS => ⟨w_, ⟨hM.cell 2 rfl rfl, rfl⟩, hM, trivial⟩) ?_
     obtain ⟨x126, hv127, hp⟩ := obind hp
     refine ops_callI (σ := Unit) (d := some 32) (f := 23) (args := #[sl A_w_0 w_0 c_w_0]) (v := (fun _ => vI x126)) (I := (fun _ => True)) (M' := (fun _ => Mem w0 (.blk b58 [sl A51 x48 c52, .slice none 0 0, .slice none 0 0] 71 :: ow A51 x48 c52 27 2 y53 :: .blk b1 [sl A_w_0 w_0 c_w_0, sl A_w_1 w_1 c_w_1, sl A_w_2 w_2 c_w_2] 71 :: .blk b2 [sl A_v_0 v_0 c_v_0, sl A_v_1 v_1 c_v_1, sl A_v_2 v_2 c_v_2] 71 :: Fz F54 W55 :: cs))) ⟨by kernel_rfl⟩ (fun w_ hM hS => (tourref3_KindsError_ok w0 w_ (.blk b58 [sl A51 x48 c52, .slice none 0 0, .slice none 0 0] 71 :: ow A51 x48 c52 27 2 y53 :: .blk b1 [sl A_w_0 w_0 c_w_0, sl A_w_1 w_1 c_w_1, sl A_w_2 w_2 c_w_2] 71 :: .blk b2 [sl A_v_0 v_0 c_v_0, sl A_v_1 v_1 c_v_1, sl A_v_2 v_2 c_v_2] 71 :: cs) F54 W55 A_w_0 c_w_0 w_0 (hM.pick 5 [4, 0, 1, 2, 3] (by kernel_rfl) (by decide) rfl) h_w_0 x126 hv127).mono (by rintro e w' ⟨-, rfl, h'⟩; have h' : Mem w0 (.blk b58 [sl A51 x48 c52, .slice none 0 0, .slice none 0 0] 71 :: ow A51 x48 c52 27 2 y53 :: .blk b1 [sl A_w_0 w_0 c_w_0, sl A_w_1 w_1 c_w_1, sl A_w_2 w_2 c_w_2] 71 :: .blk b2 [sl A_v_0 v_0 c_v_0, sl A_v_1 v_1 c_v_1, sl A_v_2 v_2 c_v_2] 71 :: Fz F54 W55 :: cs) w' := (h'.pick 5 [1, 2, 3, 4, 0] (by kernel_rfl) (by decide) rfl); exact ⟨(), trivial, rfl, h', trivial⟩)) ?_
     rintro _ -
     refine oQ [oF 3] [(9, vI x126), (8, vI x49), (7, vP b58 0), (2, vP b1 0), (3, vP b2 0), (6, vI i45)] (by kernel_rfl) ?_
     refine ops_nil (fin_then (st_seq (st_region [oF 0, oF 1, oF 2, oF 3, oF 4, oF 5, oF 6, oF 7, oF 8, oF 9, oF 10, oF 11, oF 12, oF 13, oF 14, oF 15, oF 16, oF 17, oF 18, oF 19, oF 20, oF 21, oF 22, oF 23, oF 24] (by rfl) ?_)))
     refine oQ [oF 0, oF 1, oF 2, oF 3] [(36, .bool (!(x49 == x126))), (9, vI x126), (7, vP b58 0), (2, vP b1 0), (3, vP b2 0), (6, vI i45)] (by kernel_rfl) ?_
     refine ops_bool (t := !(x49 == x126)) (l1 := [(36, .bool true), (9, vI x126), (7, vP b58 0), (2, vP b1 0), (3, vP b2 0), (6, vI i45)]) (l2 := [(36, .bool false), (9, vI x126), (7, vP b58 0), (2, vP b1 0), (3, vP b2 0), (6, vI i45)]) (fun h => by rw [h]) (fun h => by rw [h]) (fun hc128 => ?_) (fun hc128 => ?_)
     ·
      have hp := cnd_t hc128 hp
      refine oQ [oF 4, oF 5, oF 6, oF 7, oF 8, oF 9, oF 10, oF 11, oF 12, oF 13, oF 14, oF 15, oF 16, oF 17, oF 18, oF 19, oF 20, oF 21, oF 22, oF 23, oF 24] [(57, .bool true), (2, vP b1 0), (3, vP b2 0), (6, vI i45)] (by kernel_rfl) ?_
      refine ops_nil (fin_then (st_true rfl (st_seq (st_region [oF 0] (by rfl) ?_))))
      refine oQ [oF 0] [(4, .bool false)] (by kernel_rfl) ?_
      refine ops_nil (fin_then (st_ret (fin_ret_then ?_)))
      have hq_ := Option.some.inj hp
      have hr0_ := hq_
      subst hr0_
      refine fin_ret [.tmp 4] [.bool false] rfl rfl (fun w_ hM => (.tmp rfl .nil)) (fun w_ hM => ?_)
      exact ⟨F54, W55, (((h18.trans h37).trans hx1).trans h57), rfl, hM.pick 5 [4] (by kernel_rfl) (by decide) rfl⟩
     ·
      have hp := cnd_f hc128 hp
      refine oQ [oF 4, oF 5, oF 6] [(39, .bool (x126 == 0)), (36, .bool false), (9, vI x126), (7, vP b58 0), (2, vP b1 0), (3, vP b2 0), (6, vI i45)] (by kernel_rfl) ?_
      refine ops_bool (t := (x126 == 0)) (l1 := [(39, .bool true), (36, .bool false), (9, vI x126), (7, vP b58 0), (2, vP b1 0), (3, vP b2 0), (6, vI i45)]) (l2 := [(39, .bool false), (36, .bool false), (9, vI x126), (7, vP b58 0), (2, vP b1 0), (3, vP b2 0), (6, vI i45)]) (fun h => by rw [h]) (fun h => by rw [h]) (fun hc129 => ?_) (fun hc129 => ?_)
      ·
       have hp := cnd_t hc129 hp
       refine ops_mem (d := some 40) (an := [.v (sl A51 x48 c52), .v (.slice none 0 0), .v (.slice none 0 0)]) (evs := [ld b58 0 (sl A51 x48 c52), ld b58 1 (.slice none 0 0), ld b58 2 (.slice none 0 0)]) (v := .agg #[sl A51 x48 c52, .slice none 0 0, .slice none 0 0]) ⟨by kernel_rfl⟩ (fun w_ hM hS => ⟨w_, ⟨hM.cell 0 rfl rfl, hM.cell 0 rfl rfl, hM.cell 0 rfl rfl, rfl⟩, hM, trivial⟩) ?_
       refine oQ [oF 8] [(41, vP b1 0), (40, .agg #[sl A51 x48 c52, .slice none 0 0, .slice none 0 0]), (39, .bool true), (36, .bool false), (9, vI x126), (7, vP b58 0), (2, vP b1 0), (3, vP b2 0), (6, vI i45)] (by kernel_rfl) ?_
       refine ops_mem (d := some 42) (an := [.v (sl A_w_0 w_0 c_w_0)]) (evs := [ld b1 0 (sl A_w_0 w_0 c_w_0)]) (v := sl A_w_0 w_0 c_w_0) ⟨by kernel_rfl⟩ (fun w_ hM hS => ⟨w_, ⟨hM.cell 2 rfl rfl, rfl⟩, hM, trivial⟩) ?_
       refine oQ [oF 10] [(43, .agg #[sl A_w_0 w_0 c_w_0, .slice none 0 0, .slice none 0 0]), (40, .agg #[sl A51 x48 c52, .slice none 0 0, .slice none 0 0]), (39, .bool true), (36, .bool false), (9, vI x126), (7, vP b58 0), (2, vP b1 0), (3, vP b2 0), (6, vI i45)] (by kernel_rfl) ?_
       obtain ⟨x130, hv131, hp⟩ := obind hp
       refine ops_callI (σ := Unit) (d := some 44) (f := 48) (args := #[.agg #[sl A51 x48 c52, .slice none 0 0, .slice none 0 0], .agg #[sl A_w_0 w_0 c_w_0, .slice none 0 0, .slice none 0 0]]) (v := (fun _ => .bool x130)) (I := (fun _ => True)) (M' := (fun _ => Mem w0 (.blk b58 [sl A51 x48 c52, .slice none 0 0, .slice none 0 0] 71 :: ow A51 x48 c52 27 2 y53 :: .blk b1 [sl A_w_0 w_0 c_w_0, sl A_w_1 w_1 c_w_1, sl A_w_2 w_2 c_w_2] 71 :: .blk b2 [sl A_v_0 v_0 c_v_0, sl A_v_1 v_1 c_v_1, sl A_v_2 v_2 c_v_2] 71 :: Fz F54 W55 :: cs))) ⟨by kernel_rfl⟩ (fun w_ hM hS => (tourref3_SameWorld_ok w_ w_ [] (fun b => b < w_.heap.size) w_ A51 c52 x48 none 0 [] none 0 [] A_w_0 c_w_0 w_0 none 0 [] none 0 [] (Mem.fz0 w_) (hM.ordS 1 4 rfl rfl h56 rfl rfl) (RdS.empty _) (RdS.empty _) (hM.now 4 rfl h_w_0) (RdS.empty _) (RdS.empty _) x130 hv131).mono (by rintro e w' ⟨-, rfl, h'⟩; have h' : Mem w_ [] w' := h'.pick 1 [] (by kernel_rfl) (by decide) rfl; exact ⟨(), trivial, rfl, hM.join h' rfl, trivial⟩)) ?_
       rintro _ -
       refine oQ [oF 12, oF 13, oF 14, oF 15] [(48, .bool (!x130)), (9, vI x126), (7, vP b58 0), (2, vP b1 0), (3, vP b2 0), (6, vI i45)] (by kernel_rfl) ?_
       refine ops_bool (t := !x130) (l1 := [(48, .bool true), (9, vI x126), (7, vP b58 0), (2, vP b1 0), (3, vP b2 0), (6, vI i45)]) (l2 := [(48, .bool false), (9, vI x126), (7, vP b58 0), (2, vP b1 0), (3, vP b2 0), (6, vI i45)]) (fun h => by rw [h]) (fun h => by rw [h]) (fun hc132 => ?_) (fun hc132 => ?_)
       ·
        have hp := cnd_t hc132 hp
        refine oQ [oF 16, oF 17, oF 18, oF 19, oF 20, oF 21, oF 22, oF 23, oF 24] [(57, .bool true), (2, vP b1 0), (3, vP b2 0), (6, vI i45)] (by kernel_rfl) ?_
        refine ops_nil (fin_then (st_true rfl (st_seq (st_region [oF 0] (by rfl) ?_))))
        refine oQ [oF 0] [(4, .bool false)] (by kernel_rfl) ?_
        refine ops_nil (fin_then (st_ret (fin_ret_then ?_)))
        have hq_ := Option.some.inj hp
        have hr0_ := hq_
        subst hr0_
        refine fin_ret [.tmp 4] [.bool false] rfl rfl (fun w_ hM => (.tmp rfl .nil)) (fun w_ hM => ?_)
        exact ⟨F54, W55, (((h18.trans h37).trans hx1).trans h57), rfl, hM.pick 5 [4] (by kernel_rfl) (by decide) rfl⟩
       ·
        have hp := cnd_f hc132 hp
        refine oQ [oF 16, oF 17, oF 18] [(51, .bool (!(x126 == 0))), (48, .bool false), (7, vP b58 0), (2, vP b1 0), (3, vP b2 0), (6, vI i45)] (by kernel_rfl) ?_
        refine ops_conv (l' := [(51, .bool false), (48, .bool false), (7, vP b58 0), (2, vP b1 0), (3, vP b2 0), (6, vI i45)]) (by rw [show (!(x126 == 0)) = false from by rw [hc129]; rfl]) (fun _ h => h) ?_
        refine oQ [oF 19, oF 20, oF 21, oF 22, oF 23, oF 24] [(57, .bool false), (2, vP b1 0), (3, vP b2 0), (6, vI i45)] (by kernel_rfl) ?_
        refine ops_nil (fin_then (st_false rfl (st_skip ?_)))
        exact fin_join HJ2 () hp (look_has ⟨rfl, rfl, rfl, trivial⟩) (fun w_ hM => hM.pick 5 [2, 3, 4] (by kernel_rfl) (by decide) rfl)
      ·
       have hp := cnd_f hc129 hp
       refine oQ [oF 7, oF 8, oF 9, oF 10, oF 11, oF 12, oF 13, oF 14, oF 15, oF 16, oF 17, oF 18] [(51, .bool (!(x126 == 0))), (48, .bool false), (7, vP b58 0), (2, vP b1 0), (3, vP b2 0), (6, vI i45)] (by kernel_rfl) ?_
       refine ops_conv (l' := [(51, .bool true), (48, .bool false), (7, vP b58 0), (2, vP b1 0), (3, vP b2 0), (6, vI i45)]) (by rw [show (!(x126 == 0)) = true from by rw [hc129]; rfl]) (fun _ h => h) ?_
       refine ops_mem (d := some 52) (an := [.v (sl A51 x48 c52), .v (.slice none 0 0), .v (.slice none 0 0)]) (evs := [ld b58 0 (sl A51 x48 c52), ld b58 1 (.slice none 0 0), ld b58 2 (.slice none 0 0)]) (v := .agg #[sl A51 x48 c52, .slice none 0 0, .slice none 0 0]) ⟨by kernel_rfl⟩ (fun w_ hM hS => ⟨w_, ⟨hM.cell 0 rfl rfl, hM.cell 0 rfl rfl, hM.cell 0 rfl rfl, rfl⟩, hM, trivial⟩) ?_
       refine oQ [oF 20] [(53, .agg #[.slice none 0 0, .slice none 0 0, .slice none 0 0]), (52, .agg #[sl A51 x48 c52, .slice none 0 0, .slice none 0 0]), (51, .bool true), (48, .bool false), (2, vP b1 0), (3, vP b2 0), (6, vI i45)] (by kernel_rfl) ?_
       obtain ⟨x133, hv134, hp⟩ := obind hp
       refine ops_callI (σ := Unit) (d := some 54) (f := 48) (args := #[.agg #[sl A51 x48 c52, .slice none 0 0, .slice none 0 0], .agg #[.slice none 0 0, .slice none 0 0, .slice none 0 0]]) (v := (fun _ => .bool x133)) (I := (fun _ => True)) (M' := (fun _ => Mem w0 (.blk b58 [sl A51 x48 c52, .slice none 0 0, .slice none 0 0] 71 :: ow A51 x48 c52 27 2 y53 :: .blk b1 [sl A_w_0 w_0 c_w_0, sl A_w_1 w_1 c_w_1, sl A_w_2 w_2 c_w_2] 71 :: .blk b2 [sl A_v_0 v_0 c_v_0, sl A_v_1 v_1 c_v_1, sl A_v_2 v_2 c_v_2] 71 :: Fz F54 W55 :: cs))) ⟨by kernel_rfl⟩ (fun w_ hM hS => (tourref3_SameWorld_ok w_ w_ [] (fun b => b < w_.heap.size) w_ A51 c52 x48 none 0 [] none 0 [] none 0 [] none 0 [] none 0 [] (Mem.fz0 w_) (hM.ordS 1 4 rfl rfl h56 rfl rfl) (RdS.empty _) (RdS.empty _) (RdS.empty _) (RdS.empty _) (RdS.empty _) x133 hv134).mono (by rintro e w' ⟨-, rfl, h'⟩; have h' : Mem w_ [] w' := h'.pick 1 [] (by kernel_rfl) (by decide) rfl; exact ⟨(), trivial, rfl, hM.join h' rfl, trivial⟩)) ?_
       rintro _ -
       refine oQ [oF 22, oF 23, oF 24] [(57, .bool (!x133)), (2, vP b1 0), (3, vP b2 0), (6, vI i45)] (by kernel_rfl) ?_
       refine ops_nil (fin_then ?_)
       refine st_if (b := !x133) rfl (fun hc135 => ?_) (fun hc135 => ?_)
       ·
        have hp := cnd_t hc135 hp
        refine st_seq (st_region [oF 0] (by rfl) ?_)
        refine oQ [oF 0] [(4, .bool false)] (by kernel_rfl) ?_
        refine ops_nil (fin_then (st_ret (fin_ret_then ?_)))
        have hq_ := Option.some.inj hp
        have hr0_ := hq_
        subst hr0_
        refine fin_ret [.tmp 4] [.bool false] rfl rfl (fun w_ hM => (.tmp rfl .nil)) (fun w_ hM => ?_)
        exact ⟨F54, W55, (((h18.trans h37).trans hx1).trans h57), rfl, hM.pick 5 [4] (by kernel_rfl) (by decide) rfl⟩
       ·
        have hp := cnd_f hc135 hp
        refine st_skip ?_
        exact fin_join HJ2 () hp (look_has ⟨rfl, rfl, rfl, trivial⟩) (fun w_ hM => hM.pick 5 [2, 3, 4] (by kernel_rfl) (by decide) rfl)
   ·
    intro HJ1
    refine st_seq (st_region [oF 0, oF 1, oF 2, oF 3, oF 4, oF 5, oF 6] (by rfl) ?_)
    refine ops_mem (d := some 20) (an := [.v (sl A_w_0 w_0 c_w_0), .v (sl A_w_1 w_1 c_w_1), .v (sl A_w_2 w_2 c_w_2)]) (evs := [ld b1 0 (sl A_w_0 w_0 c_w_0), ld b1 1 (sl A_w_1 w_1 c_w_1), ld b1 2 (sl A_w_2 w_2 c_w_2)]) (v := .agg #[sl A_w_0 w_0 c_w_0, sl A_w_1 w_1 c_w_1, sl A_w_2 w_2 c_w_2]) ⟨by kernel_rfl⟩ (fun w_ hM hS => ⟨w_, ⟨hM.cell 8 rfl rfl, hM.cell 8 rfl rfl, hM.cell 8 rfl rfl, rfl⟩, hM, trivial⟩) ?_
    obtain ⟨r137, hv136, hp⟩ := obind hp
    rcases r137 with x138 | ⟨x139, x140, x141⟩
    ·
     have hp := (sel_l hp)
     refine ops_callI (σ := (Nat → Prop) × World) (d := some 21) (f := 46) (args := #[.agg #[sl A_w_0 w_0 c_w_0, sl A_w_1 w_1 c_w_1, sl A_w_2 w_2 c_w_2]]) (v := (fun x_ => match x_ with | (F142, W143) => .tuple #[.pointer none, vI x138])) (I := (fun x_ => match x_ with | (F142, W143) => (Ext w0 F32 W33 F142 W143))) (M' := (fun x_ => match x_ with | (F142, W143) => Mem w0 (ow A40 x38 c41 3 1 y42 :: ow A26 x22 2 27 2 y27 :: ow A28 x23 2 3 1 y29 :: ow A30 x24 2 115 3 y31 :: ow A7 x3 2 27 2 y8 :: ow A9 x4 2 3 1 y10 :: ow A11 x5 2 115 3 y12 :: .blk b2 [sl A_v_0 v_0 c_v_0, sl A_v_1 v_1 c_v_1, sl A_v_2 v_2 c_v_2] 71 :: .blk b1 [sl A_w_0 w_0 c_w_0, sl A_w_1 w_1 c_w_1, sl A_w_2 w_2 c_w_2] 71 :: Fz F142 W143 :: cs))) ⟨by kernel_rfl⟩ (fun w_ hM hS => (tourref3_Open_ok w0 w_ (ow A40 x38 c41 3 1 y42 :: ow A26 x22 2 27 2 y27 :: ow A28 x23 2 3 1 y29 :: ow A30 x24 2 115 3 y31 :: ow A7 x3 2 27 2 y8 :: ow A9 x4 2 3 1 y10 :: ow A11 x5 2 115 3 y12 :: .blk b2 [sl A_v_0 v_0 c_v_0, sl A_v_1 v_1 c_v_1, sl A_v_2 v_2 c_v_2] 71 :: .blk b1 [sl A_w_0 w_0 c_w_0, sl A_w_1 w_1 c_w_1, sl A_w_2 w_2 c_w_2] 71 :: cs) F32 W33 A_w_0 c_w_0 w_0 A_w_1 c_w_1 w_1 A_w_2 c_w_2 w_2 (hM.pick 10 [9, 0, 1, 2, 3, 4, 5, 6, 7, 8] (by kernel_rfl) (by decide) rfl) h_w_0 h_w_1 h_w_2 _ hv136).mono (by intro e w' hq_; obtain ⟨F142, W143, h144, rfl, h'⟩ := (psel_l hq_); have h' : Mem w0 (ow A40 x38 c41 3 1 y42 :: ow A26 x22 2 27 2 y27 :: ow A28 x23 2 3 1 y29 :: ow A30 x24 2 115 3 y31 :: ow A7 x3 2 27 2 y8 :: ow A9 x4 2 3 1 y10 :: ow A11 x5 2 115 3 y12 :: .blk b2 [sl A_v_0 v_0 c_v_0, sl A_v_1 v_1 c_v_1, sl A_v_2 v_2 c_v_2] 71 :: .blk b1 [sl A_w_0 w_0 c_w_0, sl A_w_1 w_1 c_w_1, sl A_w_2 w_2 c_w_2] 71 :: Fz F142 W143 :: cs) w' := (h'.pick 10 [1, 2, 3, 4, 5, 6, 7, 8, 9, 0] (by kernel_rfl) (by decide) rfl); exact ⟨(F142, W143), h144, rfl, h', trivial⟩)) ?_
     rintro ⟨F142, W143⟩ h144
     have h_w_0 := h_w_0.ext h144
     have h_w_1 := h_w_1.ext h144
     have h_w_2 := h_w_2.ext h144
     have h43 := h43.ext h144
     have h34 := h34.ext h144
     have h35 := h35.ext h144
     have h36 := h36.ext h144
     have h15 := h15.ext h144
     have h16 := h16.ext h144
     have h17 := h17.ext h144
     have h_v_0 := h_v_0.ext h144
     have h_v_1 := h_v_1.ext h144
     have h_v_2 := h_v_2.ext h144
     refine oQ [oF 2, oF 3, oF 4, oF 5, oF 6] [(6, vI x138), (3, vP b2 0), (2, vP b1 0)] (by kernel_rfl) ?_
     refine ops_nil ?_
     exact fin_join HJ1 (x138, F142, W143) ⟨hp, h144⟩ (look_has ⟨rfl, rfl, rfl, trivial⟩) (fun w_ hM => hM.pick 10 [8, 7, 9] (by kernel_rfl) (by decide) rfl)
    ·
     have hp := (un3_at (sel_r hp))
     refine ops_callI (σ := Nat × (Option Addr) × Nat × (List Value) × (Option Addr) × Nat × (List Value) × Nat × (Array MapEntry) × Nat × (Nat → Prop) × World) (d := some 21) (f := 46) (args := #[.agg #[sl A_w_0 w_0 c_w_0, sl A_w_1 w_1 c_w_1, sl A_w_2 w_2 c_w_2]]) (v := (fun x_ => match x_ with | (b145, A146, c147, y148, A149, c150, y151, b152, es153, ck154, F155, W156) => .tuple #[vP b145 0, vI 0])) (I := (fun x_ => match x_ with | (b145, A146, c147, y148, A149, c150, y151, b152, es153, ck154, F155, W156) => (RepL R_api_Kind F155 W156 x139 y148) ∧ (RepL (Rep.int .i64) F155 W156 x140 y151) ∧ (MapOK (fun x_ : Int => Value.int .i64 x_) (Rep.map (fun x_ : Int => Value.int .i64 x_) (Rep.sl (Rep.int .i64)) false) false F155 W156 x141 es153 ck154) ∧ (Ext w0 F32 W33 F155 W156))) (M' := (fun x_ => match x_ with | (b145, A146, c147, y148, A149, c150, y151, b152, es153, ck154, F155, W156) => Mem w0 (.blk b145 [sl A146 x139 c147, sl A149 x140 c150, .map (some b152)] 123 :: ow A146 x139 c147 27 2 y148 :: ow A149 x140 c150 3 1 y151 :: .obj b152 (.map es153 ck154) :: ow A40 x38 c41 3 1 y42 :: ow A26 x22 2 27 2 y27 :: ow A28 x23 2 3 1 y29 :: ow A30 x24 2 115 3 y31 :: ow A7 x3 2 27 2 y8 :: ow A9 x4 2 3 1 y10 :: ow A11 x5 2 115 3 y12 :: .blk b2 [sl A_v_0 v_0 c_v_0, sl A_v_1 v_1 c_v_1, sl A_v_2 v_2 c_v_2] 71 :: .blk b1 [sl A_w_0 w_0 c_w_0, sl A_w_1 w_1 c_w_1, sl A_w_2 w_2 c_w_2] 71 :: Fz F155 W156 :: cs))) ⟨by kernel_rfl⟩ (fun w_ hM hS => (tourref3_Open_ok w0 w_ (ow A40 x38 c41 3 1 y42 :: ow A26 x22 2 27 2 y27 :: ow A28 x23 2 3 1 y29 :: ow A30 x24 2 115 3 y31 :: ow A7 x3 2 27 2 y8 :: ow A9 x4 2 3 1 y10 :: ow A11 x5 2 115 3 y12 :: .blk b2 [sl A_v_0 v_0 c_v_0, sl A_v_1 v_1 c_v_1, sl A_v_2 v_2 c_v_2] 71 :: .blk b1 [sl A_w_0 w_0 c_w_0, sl A_w_1 w_1 c_w_1, sl A_w_2 w_2 c_w_2] 71 :: cs) F32 W33 A_w_0 c_w_0 w_0 A_w_1 c_w_1 w_1 A_w_2 c_w_2 w_2 (hM.pick 10 [9, 0, 1, 2, 3, 4, 5, 6, 7, 8] (by kernel_rfl) (by decide) rfl) h_w_0 h_w_1 h_w_2 _ hv136).mono (by intro e w' hq_; obtain ⟨b145, A146, c147, y148, A149, c150, y151, b152, es153, ck154, F155, W156, ⟨h157, h158, h159, h160⟩, rfl, h'⟩ := (pun3_at (psel_r hq_)); have h' : Mem w0 (.blk b145 [sl A146 x139 c147, sl A149 x140 c150, .map (some b152)] 123 :: ow A146 x139 c147 27 2 y148 :: ow A149 x140 c150 3 1 y151 :: .obj b152 (.map es153 ck154) :: ow A40 x38 c41 3 1 y42 :: ow A26 x22 2 27 2 y27 :: ow A28 x23 2 3 1 y29 :: ow A30 x24 2 115 3 y31 :: ow A7 x3 2 27 2 y8 :: ow A9 x4 2 3 1 y10 :: ow A11 x5 2 115 3 y12 :: .blk b2 [sl A_v_0 v_0 c_v_0, sl A_v_1 v_1 c_v_1, sl A_v_2 v_2 c_v_2] 71 :: .blk b1 [sl A_w_0 w_0 c_w_0, sl A_w_1 w_1 c_w_1, sl A_w_2 w_2 c_w_2] 71 :: Fz F155 W156 :: cs) w' := (h'.pick 14 [0, 1, 2, 3, 5, 6, 7, 8, 9, 10, 11, 12, 13, 4] (by kernel_rfl) (by decide) rfl); exact ⟨(b145, A146, c147, y148, A149, c150, y151, b152, es153, ck154, F155, W156), ⟨h157, h158, h159, h160⟩, rfl, h', trivial⟩)) ?_
     rintro ⟨b145, A146, c147, y148, A149, c150, y151, b152, es153, ck154, F155, W156⟩ ⟨h157, h158, h159, h160⟩
     have h_w_0 := h_w_0.ext h160
     have h_w_1 := h_w_1.ext h160
     have h_w_2 := h_w_2.ext h160
     have h43 := h43.ext h160
     have h34 := h34.ext h160
     have h35 := h35.ext h160
     have h36 := h36.ext h160
     have h15 := h15.ext h160
     have h16 := h16.ext h160
     have h17 := h17.ext h160
     have h_v_0 := h_v_0.ext h160
     have h_v_1 := h_v_1.ext h160
     have h_v_2 := h_v_2.ext h160
     refine oQ [oF 2, oF 3, oF 4, oF 5, oF 6] [(6, vI 0), (3, vP b2 0), (2, vP b1 0)] (by kernel_rfl) ?_
     refine ops_nil ?_
     exact fin_join HJ1 (0, F155, W156) ⟨hp, h160⟩ (look_has ⟨rfl, rfl, rfl, trivial⟩) (fun w_ hM => hM.pick 14 [12, 11, 13] (by kernel_rfl) (by decide) rfl)
end Go.Proofs.YthcbepikeinglaaDoor.N
