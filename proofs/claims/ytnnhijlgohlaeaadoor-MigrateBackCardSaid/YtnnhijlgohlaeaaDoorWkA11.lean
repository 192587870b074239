/- The Go functions come to what the plain functions tell. No condition. -/
import Derived.Test.YtnnhijlgohlaeaaDoorProg
import Derived.Test.YtnnhijlgohlaeaaDoorFnA
import Derived.Test.YtnnhijlgohlaeaaDoorWkA8
import Derived.Test.YtnnhijlgohlaeaaDoorWkA10
import Derived.Test.YtnnhijlgohlaeaaDoorEqA
import Derived.Test.YtnnhijlgohlaeaaDoorExMap
import Derived.Test.YtnnhijlgohlaeaaDoorExOwnM
namespace Go.Proofs.YtnnhijlgohlaeaaDoor.A
open Go Go.RowKit Go.Proofs.YtnnhijlgohlaeaaDoor.Sx
set_option linter.unusedVariables false
set_option maxHeartbeats 4000000
set_option maxRecDepth 100000
def tourref3_Undone__t0 : List Row := [⟨0, 4835703278458516698824704, 8⟩, ⟨1, 9671406556917033397649408, 4835703278458516698824704⟩, ⟨0, 19342813113834066795298816, 8⟩, ⟨4, 38685626227668133590597632, 19342813113834066795298816⟩, ⟨0, 77371252455336267181195264, 512⟩, ⟨16, 154742504910672534362390528, 77371252455336267181195264⟩, ⟨0, 309485009821345068724781056, 512⟩, ⟨64, 618970019642690137449562112, 309485009821345068724781056⟩, ⟨160, 1237940039285380274899124224, 773712524553362671811952640⟩, ⟨3, 2475880078570760549798248448, 256⟩, ⟨515, 0, 2485551485127677583195897856⟩, ⟨1551, 4951760157141521099596496896, 256⟩, ⟨3599, 0, 4990445783369189233187094528⟩, ⟨8191, 9903520314283042199192993792, 256⟩, ⟨16383, 0, 11141460353568422474092118016⟩]
def tourref3_Undone__t1 : List Row := [⟨0, 19807040628566084398385987584, 256⟩, ⟨0, 39614081257132168796771975168, 1024⟩, ⟨0, 79228162514264337593543950336, 512⟩, ⟨4, 158456325028528675187087900672, 79228162514264337593543950336⟩, ⟨10, 316912650057057350374175801344, 198070406285660843983859875840⟩, ⟨0, 633825300114114700748351602688, 512⟩, ⟨32, 1267650600228229401496703205376, 633825300114114700748351602688⟩, ⟨80, 2535301200456458802993406410752, 1584563250285286751870879006720⟩, ⟨144, 5070602400912917605986812821504, 2535301200456458802993406410752⟩, ⟨256, 10141204801825835211973625643008, 5070602400912917605986812822528⟩, ⟨256, 20282409603651670423947251286016, 5070602400912917605986812822016⟩, ⟨1280, 40564819207303340847894502572032, 25353012004564588029934064107520⟩, ⟨2816, 81129638414606681695789005144064, 55776626410042093665854941036544⟩, ⟨256, 162259276829213363391578010288128, 5070602400912917605986812822016⟩, ⟨12544, 324518553658426726783156020576256, 167329879230126280997564823109632⟩, ⟨20736, 649037107316853453566312041152512, 410718794473946326084931838541824⟩, ⟨33024, 1298074214633706907132624082305024, 654107709717766371172298853974016⟩, ⟨16385, 0, 19807040628566084398385987600⟩, ⟨262143, 32, 1298074214633706907132624082305024⟩]
theorem tourref3_Undone_ok (w0 w : World) (cs : List Chunk) (F : Nat → Prop) (W : World) (A_k : Option Addr) (c_k : Nat) (k : List api_Kind) (m_0 : Int) (m_1 : ByteArray) (m_2 : ByteArray) (m_3 : ByteArray) (m_4 : Int) (m_5 : ByteArray) (m_6 : Int) (m_7 : Int) (m_8 : ByteArray) (A_m_9 : Option Addr) (c_m_9 : Nat) (m_9 : List api_Field) (hM0 : Mem w0 (Fz F W :: cs) w) (h_k : RdS R_api_Kind F W A_k c_k k) (h_m_9 : RdS R_api_Field F W A_m_9 c_m_9 m_9) (i9001 : Int) (u9002 : ByteArray) (u9003 : ByteArray) (u9004 : ByteArray) (i9005 : Int) (i9006 : Int) (l9009 : List api_Field) (t9012 : Bool) (hp : tourref3_Undone k m_0 m_1 m_2 m_3 m_4 m_5 m_6 m_7 m_8 m_9 = some (i9001, u9002, u9003, u9004, i9005, i9006, l9009, t9012)) : Calls Tryd.prog 12 #[sl A_k k c_k, .agg #[vI m_0, .string m_1, .string m_2, .string m_3, vI m_4, .string m_5, vI m_6, vI m_7, .string m_8, sl A_m_9 m_9 c_m_9]] w fun e w' => ∃ (A9007 : Option Addr), ∃ (c9008 : Nat), ∃ (y9010 : List Value), ((RepL R_api_Field F W l9009 y9010)) ∧ e = .returned (.tuple #[.agg #[vI i9001, .string u9002, .string u9003, .string u9004, vI 0, .string ByteArray.empty, vI i9005, vI i9006, .string ByteArray.empty, sl A9007 l9009 c9008], .bool t9012]) ∧ Mem w0 (ow A9007 l9009 c9008 32 3 y9010 :: Fz F W :: cs) w' := by
 unfold tourref3_Undone at hp
 refine sx_calls Tryd.func12 rfl (n := 112) (by kernel_rfl) (l := [(0, sl A_k k c_k), (1, .agg #[vI m_0, .string m_1, .string m_2, .string m_3, vI m_4, .string m_5, vI m_6, vI m_7, .string m_8, sl A_m_9 m_9 c_m_9])]) rfl (by rfl) hM0 ?_
 refine st_seq (st_region [oF 0, oF 1, oF 2] (by rfl) ?_)
 refine ops_newB (d := some 3) [vI m_0, .string m_1, .string m_2, .string m_3, vI m_4, .string m_5, vI m_6, vI m_7, .string m_8, sl A_m_9 m_9 c_m_9] 37 (fun b1 => ⟨by kernel_rfl⟩) (fun w_ hM hS => trivial) (fun b1 => ?_)
 refine ops_newB (d := some 4) [vI 0, .string ByteArray.empty, .string ByteArray.empty, .string ByteArray.empty, vI 0, .string ByteArray.empty, vI 0, vI 0, .string ByteArray.empty, .slice none 0 0] 37 (fun b2 => ⟨by kernel_rfl⟩) (fun w_ hM hS => trivial) (fun b2 => ?_)
 refine oQ [oF 2] [(4, vP b2 0), (3, vP b1 0), (0, sl A_k k c_k)] (by kernel_rfl) ?_
 refine ops_nil (fin_then (st_seq (st_region [oF 0, oF 1, oF 2, oF 3, oF 4, oF 5, oF 6, oF 7, oF 8, oF 9, oF 10] (by rfl) ?_)))
 refine oQ [oF 0, oF 1] [(13, vP b1 1), (12, sl A_k k c_k), (4, vP b2 0), (3, vP b1 0), (0, sl A_k k c_k)] (by kernel_rfl) ?_
 refine ops_mem (d := some 14) (an := [.v (.string m_1)]) (evs := [ld b1 1 (.string m_1)]) (v := .string m_1) ⟨by kernel_rfl⟩ (fun w_ hM hS => ⟨w_, ⟨hM.cell 1 rfl rfl, rfl⟩, hM, trivial⟩) ?_
 refine oQ [oF 3] [(15, vP b1 2), (14, .string m_1), (12, sl A_k k c_k), (4, vP b2 0), (3, vP b1 0), (0, sl A_k k c_k)] (by kernel_rfl) ?_
 refine ops_mem (d := some 16) (an := [.v (.string m_2)]) (evs := [ld b1 2 (.string m_2)]) (v := .string m_2) ⟨by kernel_rfl⟩ (fun w_ hM hS => ⟨w_, ⟨hM.cell 1 rfl rfl, rfl⟩, hM, trivial⟩) ?_
 obtain ⟨x3, x4, hv5, hp⟩ := obind2 hp
 refine ops_callI (σ := Unit) (d := some 17) (f := 47) (args := #[sl A_k k c_k, .string m_1, .string m_2]) (v := (fun _ => .tuple #[vI x3, vI x4])) (I := (fun _ => True)) (M' := (fun _ => Mem w0 (.blk b2 [vI 0, .string ByteArray.empty, .string ByteArray.empty, .string ByteArray.empty, vI 0, .string ByteArray.empty, vI 0, vI 0, .string ByteArray.empty, .slice none 0 0] 37 :: .blk b1 [vI m_0, .string m_1, .string m_2, .string m_3, vI m_4, .string m_5, vI m_6, vI m_7, .string m_8, sl A_m_9 m_9 c_m_9] 37 :: Fz F W :: cs))) ⟨by kernel_rfl⟩ (fun w_ hM hS => (tourref3_where_ok w0 w_ (.blk b2 [vI 0, .string ByteArray.empty, .string ByteArray.empty, .string ByteArray.empty, vI 0, .string ByteArray.empty, vI 0, vI 0, .string ByteArray.empty, .slice none 0 0] 37 :: .blk b1 [vI m_0, .string m_1, .string m_2, .string m_3, vI m_4, .string m_5, vI m_6, vI m_7, .string m_8, sl A_m_9 m_9 c_m_9] 37 :: cs) F W A_k c_k k m_1 m_2 (hM.pick 3 [2, 0, 1] (by kernel_rfl) (by decide) rfl) h_k x3 x4 hv5).mono (by rintro e w' ⟨-, rfl, h'⟩; have h' : Mem w0 (.blk b2 [vI 0, .string ByteArray.empty, .string ByteArray.empty, .string ByteArray.empty, vI 0, .string ByteArray.empty, vI 0, vI 0, .string ByteArray.empty, .slice none 0 0] 37 :: .blk b1 [vI m_0, .string m_1, .string m_2, .string m_3, vI m_4, .string m_5, vI m_6, vI m_7, .string m_8, sl A_m_9 m_9 c_m_9] 37 :: Fz F W :: cs) w' := (h'.pick 3 [1, 2, 0] (by kernel_rfl) (by decide) rfl); exact ⟨(), trivial, rfl, h', trivial⟩)) ?_
 rintro _ -
 refine oQ [oF 6, oF 7, oF 8, oF 9, oF 10] [(7, vI x4), (6, vI x3), (4, vP b2 0), (3, vP b1 0), (0, sl A_k k c_k)] (by kernel_rfl) ?_
 refine ops_nil (fin_then (st_seq (st_region [oF 0, oF 1, oF 2, oF 3, oF 4, oF 5, oF 6, oF 7, oF 8, oF 9, oF 10, oF 11, oF 12] (by rfl) ?_)))
 have h7 := (MapOK.nil : MapOK (fun x_ : Int => Value.int .i64 x_) (Rep.int .i64) false F W ([] : List (Int × Int)) #[] 0)
 refine ops_new (d := some 20) (o := .map #[] 0) (v := fun g6 => .map (some g6)) (M' := fun g6 => Mem w0 (.obj g6 (.map #[] 0) :: .blk b2 [vI 0, .string ByteArray.empty, .string ByteArray.empty, .string ByteArray.empty, vI 0, .string ByteArray.empty, vI 0, vI 0, .string ByteArray.empty, .slice none 0 0] 37 :: .blk b1 [vI m_0, .string m_1, .string m_2, .string m_3, vI m_4, .string m_5, vI m_6, vI m_7, .string m_8, sl A_m_9 m_9 c_m_9] 37 :: Fz F W :: cs)) (fun g6 => ⟨by kernel_rfl⟩) (fun w_ hM hS => ⟨hM.objNew _, trivial⟩) (fun g6 => ?_)
 obtain ⟨l8, hv9, hp⟩ := obind hp
 obtain ⟨es10, ck11, h12, hrun13⟩ := MapOK.update h7 (KeyLaw.int Tryd.underlying3) Tryd.underlying104 0 (v := 1) (vs := [vI 1]) (rfl)
 rw [Option.some.inj hv9] at h12
 refine ops_unit (op := (.insert 104 (.tmp 20) (.const (Go.Value.int Go.IntKind.i64 0)) (.const (Go.Value.int Go.IntKind.i64 1)))) (σ := Unit) (M' := fun _ => Mem w0 (.obj g6 (.map es10 ck11) :: .blk b2 [vI 0, .string ByteArray.empty, .string ByteArray.empty, .string ByteArray.empty, vI 0, .string ByteArray.empty, vI 0, vI 0, .string ByteArray.empty, .slice none 0 0] 37 :: .blk b1 [vI m_0, .string m_1, .string m_2, .string m_3, vI m_4, .string m_5, vI m_6, vI m_7, .string m_8, sl A_m_9 m_9 c_m_9] 37 :: Fz F W :: cs)) ⟨by kernel_rfl⟩ (fun o_ w_ ho_ hM hS => have h' := hM.setObj 0 rfl _; ⟨(), _, run_insertV rfl rfl rfl (hrun13 g6 w_ (hM.mapAt 0 rfl)) o_ ho_, h', trivial⟩) (fun _ => ?_)
 obtain ⟨l14, hv15, hp⟩ := obind hp
 obtain ⟨es16, ck17, h18, hrun19⟩ := MapOK.update h12 (KeyLaw.int Tryd.underlying3) Tryd.underlying104 2 (v := 2) (vs := [vI 2]) (rfl)
 rw [Option.some.inj hv15] at h18
 refine ops_unit (op := (.insert 104 (.tmp 20) (.const (Go.Value.int Go.IntKind.i64 2)) (.const (Go.Value.int Go.IntKind.i64 2)))) (σ := Unit) (M' := fun _ => Mem w0 (.obj g6 (.map es16 ck17) :: .blk b2 [vI 0, .string ByteArray.empty, .string ByteArray.empty, .string ByteArray.empty, vI 0, .string ByteArray.empty, vI 0, vI 0, .string ByteArray.empty, .slice none 0 0] 37 :: .blk b1 [vI m_0, .string m_1, .string m_2, .string m_3, vI m_4, .string m_5, vI m_6, vI m_7, .string m_8, sl A_m_9 m_9 c_m_9] 37 :: Fz F W :: cs)) ⟨by kernel_rfl⟩ (fun o_ w_ ho_ hM hS => have h' := hM.setObj 0 rfl _; ⟨(), _, run_insertV rfl rfl rfl (hrun19 g6 w_ (hM.mapAt 0 rfl)) o_ ho_, h', trivial⟩) (fun _ => ?_)
 obtain ⟨l20, hv21, hp⟩ := obind hp
 obtain ⟨es22, ck23, h24, hrun25⟩ := MapOK.update h18 (KeyLaw.int Tryd.underlying3) Tryd.underlying104 3 (v := 4) (vs := [vI 4]) (rfl)
 rw [Option.some.inj hv21] at h24
 refine ops_unit (op := (.insert 104 (.tmp 20) (.const (Go.Value.int Go.IntKind.i64 3)) (.const (Go.Value.int Go.IntKind.i64 4)))) (σ := Unit) (M' := fun _ => Mem w0 (.obj g6 (.map es22 ck23) :: .blk b2 [vI 0, .string ByteArray.empty, .string ByteArray.empty, .string ByteArray.empty, vI 0, .string ByteArray.empty, vI 0, vI 0, .string ByteArray.empty, .slice none 0 0] 37 :: .blk b1 [vI m_0, .string m_1, .string m_2, .string m_3, vI m_4, .string m_5, vI m_6, vI m_7, .string m_8, sl A_m_9 m_9 c_m_9] 37 :: Fz F W :: cs)) ⟨by kernel_rfl⟩ (fun o_ w_ ho_ hM hS => have h' := hM.setObj 0 rfl _; ⟨(), _, run_insertV rfl rfl rfl (hrun25 g6 w_ (hM.mapAt 0 rfl)) o_ ho_, h', trivial⟩) (fun _ => ?_)
 obtain ⟨l26, hv27, hp⟩ := obind hp
 obtain ⟨es28, ck29, h30, hrun31⟩ := MapOK.update h24 (KeyLaw.int Tryd.underlying3) Tryd.underlying104 5 (v := 5) (vs := [vI 5]) (rfl)
 rw [Option.some.inj hv27] at h30
 refine ops_unit (op := (.insert 104 (.tmp 20) (.const (Go.Value.int Go.IntKind.i64 5)) (.const (Go.Value.int Go.IntKind.i64 5)))) (σ := Unit) (M' := fun _ => Mem w0 (.obj g6 (.map es28 ck29) :: .blk b2 [vI 0, .string ByteArray.empty, .string ByteArray.empty, .string ByteArray.empty, vI 0, .string ByteArray.empty, vI 0, vI 0, .string ByteArray.empty, .slice none 0 0] 37 :: .blk b1 [vI m_0, .string m_1, .string m_2, .string m_3, vI m_4, .string m_5, vI m_6, vI m_7, .string m_8, sl A_m_9 m_9 c_m_9] 37 :: Fz F W :: cs)) ⟨by kernel_rfl⟩ (fun o_ w_ ho_ hM hS => have h' := hM.setObj 0 rfl _; ⟨(), _, run_insertV rfl rfl rfl (hrun31 g6 w_ (hM.mapAt 0 rfl)) o_ ho_, h', trivial⟩) (fun _ => ?_)
 obtain ⟨l32, hv33, hp⟩ := obind hp
 obtain ⟨es34, ck35, h36, hrun37⟩ := MapOK.update h30 (KeyLaw.int Tryd.underlying3) Tryd.underlying104 6 (v := 6) (vs := [vI 6]) (rfl)
 rw [Option.some.inj hv33] at h36
 refine ops_unit (op := (.insert 104 (.tmp 20) (.const (Go.Value.int Go.IntKind.i64 6)) (.const (Go.Value.int Go.IntKind.i64 6)))) (σ := Unit) (M' := fun _ => Mem w0 (.obj g6 (.map es34 ck35) :: .blk b2 [vI 0, .string ByteArray.empty, .string ByteArray.empty, .string ByteArray.empty, vI 0, .string ByteArray.empty, vI 0, vI 0, .string ByteArray.empty, .slice none 0 0] 37 :: .blk b1 [vI m_0, .string m_1, .string m_2, .string m_3, vI m_4, .string m_5, vI m_6, vI m_7, .string m_8, sl A_m_9 m_9 c_m_9] 37 :: Fz F W :: cs)) ⟨by kernel_rfl⟩ (fun o_ w_ ho_ hM hS => have h' := hM.setObj 0 rfl _; ⟨(), _, run_insertV rfl rfl rfl (hrun37 g6 w_ (hM.mapAt 0 rfl)) o_ ho_, h', trivial⟩) (fun _ => ?_)
 refine oQ [oF 6, oF 7] [(22, vP b1 0), (21, .map (some g6)), (7, vI x4), (6, vI x3), (4, vP b2 0), (3, vP b1 0), (0, sl A_k k c_k)] (by kernel_rfl) ?_
 refine ops_mem (d := some 23) (an := [.v (vI m_0)]) (evs := [ld b1 0 (vI m_0)]) (v := vI m_0) ⟨by kernel_rfl⟩ (fun w_ hM hS => ⟨w_, ⟨hM.cell 2 rfl rfl, rfl⟩, hM, trivial⟩) ?_
 obtain ⟨x38, hv39, hp⟩ := obind hp
 obtain ⟨vs40, hr41, hrun42⟩ := h36.get (KeyLaw.int Tryd.underlying3) Tryd.underlying104 m_0 0 (rfl) (fun u_ => Tryd.zeroValue3 u_)
 have hr41 : (Rep.int .i64).rd F W x38 vs40 := by rw [← Option.some.inj hv39]; exact hr41
 obtain rfl := hr41
 refine ops_law (op := (.lookup 104 (.tmp 21) (.tmp 23) false)) (d := some 24) (σ := Unit) (v := fun _ => vI x38) (M' := fun _ => Mem w0 (.obj g6 (.map es34 ck35) :: .blk b2 [vI 0, .string ByteArray.empty, .string ByteArray.empty, .string ByteArray.empty, vI 0, .string ByteArray.empty, vI 0, vI 0, .string ByteArray.empty, .slice none 0 0] 37 :: .blk b1 [vI m_0, .string m_1, .string m_2, .string m_3, vI m_4, .string m_5, vI m_6, vI m_7, .string m_8, sl A_m_9 m_9 c_m_9] 37 :: Fz F W :: cs)) ⟨by kernel_rfl⟩ (fun o_ w_ ho_ hM hS => ⟨(), w_, run_lookupV rfl rfl (hrun42 false g6 w_ (hM.mapAt 0 rfl)) o_ ho_, hM, trivial⟩) (fun _ => ?_)
 refine oQ [oF 10] [(25, .agg #[vI x38, .string ByteArray.empty, .string ByteArray.empty, .string ByteArray.empty, vI 0, .string ByteArray.empty, vI 0, vI 0, .string ByteArray.empty, .slice none 0 0]), (7, vI x4), (6, vI x3), (4, vP b2 0), (3, vP b1 0), (0, sl A_k k c_k)] (by kernel_rfl) ?_
 refine ops_newB (d := some 8) [vI 0, .string ByteArray.empty, .string ByteArray.empty, .string ByteArray.empty, vI 0, .string ByteArray.empty, vI 0, vI 0, .string ByteArray.empty, .slice none 0 0] 37 (fun b43 => ⟨by kernel_rfl⟩) (fun w_ hM hS => trivial) (fun b43 => ?_)
 refine ops_store (an := []) (evs := [sr b43 0 (vI x38), sr b43 1 (.string ByteArray.empty), sr b43 2 (.string ByteArray.empty), sr b43 3 (.string ByteArray.empty), sr b43 4 (vI 0), sr b43 5 (.string ByteArray.empty), sr b43 6 (vI 0), sr b43 7 (vI 0), sr b43 8 (.string ByteArray.empty), sr b43 9 (.slice none 0 0)]) ⟨by kernel_rfl⟩ (fun w_ hM hS => let ⟨w', he, h'⟩ := hM.evs_stores [vI x38, .string ByteArray.empty, .string ByteArray.empty, .string ByteArray.empty, vI 0, .string ByteArray.empty, vI 0, vI 0, .string ByteArray.empty, .slice none 0 0] 0 rfl 0 (Nat.le_of_ble_eq_true rfl); ⟨w', he, h', trivial⟩) ?_
 refine ops_nil (fin_then ?_)
 refine st_join1 (σ := (Option Addr) × Nat × (List Value) × ByteArray × ByteArray × ByteArray × (List Value)) (L := fun x_ => match x_ with | (A44, c45, y46, u48, u49, u50, y51) => [(4, vP b2 0), (8, vP b43 0)]) (N := fun x_ => match x_ with | (A44, c45, y46, u48, u49, u50, y51) => Mem w0 (.blk b2 [vI 0, .string ByteArray.empty, .string ByteArray.empty, .string ByteArray.empty, vI 0, .string ByteArray.empty, vI 0, vI 0, .string ByteArray.empty, sl A44 ([] : List api_Field) c45] 37 :: ow A44 ([] : List api_Field) c45 32 3 y46 :: .blk b43 [vI x38, .string u48, .string u49, .string u50, vI 0, .string ByteArray.empty, vI 0, vI 0, .string ByteArray.empty, sl A44 ([] : List api_Field) c45] 37 :: ow A44 ([] : List api_Field) c45 32 3 y51 :: Fz F W :: cs)) (I := fun x_ => match x_ with | (A44, c45, y46, u48, u49, u50, y51) => ((tourref3_Undone_j1 x38) u48 u49 u50 = some (i9001, u9002, u9003, u9004, i9005, i9006, l9009, t9012)) ∧ (RepL R_api_Field F W ([] : List api_Field) y46) ∧ (RepL R_api_Field F W ([] : List api_Field) y51)) ?_ ?_
 ·
  rintro ⟨A44, c45, y46, u48, u49, u50, y51⟩ ⟨hp, h47, h52⟩
  unfold tourref3_Undone_j1 at hp
  refine st_seq (st_region [oF 0, oF 1, oF 2] (by rfl) ?_)
  refine ops_mem (d := some 111) (an := [.v (vI x38), .v (.string u48), .v (.string u49), .v (.string u50), .v (vI 0), .v (.string ByteArray.empty), .v (vI 0), .v (vI 0), .v (.string ByteArray.empty), .v (sl A44 ([] : List api_Field) c45)]) (evs := [ld b43 0 (vI x38), ld b43 1 (.string u48), ld b43 2 (.string u49), ld b43 3 (.string u50), ld b43 4 (vI 0), ld b43 5 (.string ByteArray.empty), ld b43 6 (vI 0), ld b43 7 (vI 0), ld b43 8 (.string ByteArray.empty), ld b43 9 (sl A44 ([] : List api_Field) c45)]) (v := .agg #[vI x38, .string u48, .string u49, .string u50, vI 0, .string ByteArray.empty, vI 0, vI 0, .string ByteArray.empty, sl A44 ([] : List api_Field) c45]) ⟨by kernel_rfl⟩ (fun w_ hM hS => ⟨w_, ⟨hM.cell 2 rfl rfl, hM.cell 2 rfl rfl, hM.cell 2 rfl rfl, hM.cell 2 rfl rfl, hM.cell 2 rfl rfl, hM.cell 2 rfl rfl, hM.cell 2 rfl rfl, hM.cell 2 rfl rfl, hM.cell 2 rfl rfl, hM.cell 2 rfl rfl, rfl⟩, hM, trivial⟩) ?_
  refine ops_store (an := []) (evs := [sr b2 0 (vI x38), sr b2 1 (.string u48), sr b2 2 (.string u49), sr b2 3 (.string u50), sr b2 4 (vI 0), sr b2 5 (.string ByteArray.empty), sr b2 6 (vI 0), sr b2 7 (vI 0), sr b2 8 (.string ByteArray.empty), sr b2 9 (sl A44 ([] : List api_Field) c45)]) ⟨by kernel_rfl⟩ (fun w_ hM hS => let ⟨w', he, h'⟩ := hM.evs_stores [vI x38, .string u48, .string u49, .string u50, vI 0, .string ByteArray.empty, vI 0, vI 0, .string ByteArray.empty, sl A44 ([] : List api_Field) c45] 0 rfl 0 (Nat.le_of_ble_eq_true rfl); ⟨w', he, h', trivial⟩) ?_
  refine oQ [oF 2] [(5, .bool true), (4, vP b2 0)] (by kernel_rfl) ?_
  refine ops_nil (fin_then (st_ret ?_))
  have hq_ := Option.some.inj hp
  obtain ⟨hr0_, hq_⟩ := Prod.mk.inj hq_
  obtain ⟨hr1_, hq_⟩ := Prod.mk.inj hq_
  obtain ⟨hr2_, hq_⟩ := Prod.mk.inj hq_
  obtain ⟨hr3_, hq_⟩ := Prod.mk.inj hq_
  obtain ⟨hr4_, hq_⟩ := Prod.mk.inj hq_
  obtain ⟨hr5_, hq_⟩ := Prod.mk.inj hq_
  obtain ⟨hr6_, hq_⟩ := Prod.mk.inj hq_
  have hr7_ := hq_
  subst hr0_
  subst hr1_
  subst hr2_
  subst hr3_
  subst hr4_
  subst hr5_
  subst hr6_
  subst hr7_
  refine fin_ret [.cell 4 37, .tmp 5] [.agg #[vI x38, .string u48, .string u49, .string u50, vI 0, .string ByteArray.empty, vI 0, vI 0, .string ByteArray.empty, sl A44 ([] : List api_Field) c45], .bool true] rfl rfl (fun w_ hM => (.cell rfl (tr_run _ [.v (vI x38), .v (.string u48), .v (.string u49), .v (.string u50), .v (vI 0), .v (.string ByteArray.empty), .v (vI 0), .v (vI 0), .v (.string ByteArray.empty), .v (sl A44 ([] : List api_Field) c45)] [ld b2 0 (vI x38), ld b2 1 (.string u48), ld b2 2 (.string u49), ld b2 3 (.string u50), ld b2 4 (vI 0), ld b2 5 (.string ByteArray.empty), ld b2 6 (vI 0), ld b2 7 (vI 0), ld b2 8 (.string ByteArray.empty), ld b2 9 (sl A44 ([] : List api_Field) c45)] (.agg #[vI x38, .string u48, .string u49, .string u50, vI 0, .string ByteArray.empty, vI 0, vI 0, .string ByteArray.empty, sl A44 ([] : List api_Field) c45] : Value) _ _ (by kernel_rfl) ⟨hM.cell 0 rfl rfl, hM.cell 0 rfl rfl, hM.cell 0 rfl rfl, hM.cell 0 rfl rfl, hM.cell 0 rfl rfl, hM.cell 0 rfl rfl, hM.cell 0 rfl rfl, hM.cell 0 rfl rfl, hM.cell 0 rfl rfl, hM.cell 0 rfl rfl, rfl⟩) (.tmp rfl .nil))) (fun w_ hM => ?_)
  exact ⟨A44, c45, y51, h52, rfl, hM.pick 5 [3, 4] (by kernel_rfl) (by decide) rfl⟩
 ·
  intro HJ1
  refine st_seq (st_seq (st_region [oF 0, oF 1] (by rfl) ?_))
  refine oQ [oF 0] [(26, vP b1 0), (8, vP b43 0), (7, vI x4), (6, vI x3), (4, vP b2 0), (3, vP b1 0), (0, sl A_k k c_k)] (by kernel_rfl) ?_
  refine ops_mem (d := some 27) (an := [.v (vI m_0)]) (evs := [ld b1 0 (vI m_0)]) (v := vI m_0) ⟨by kernel_rfl⟩ (fun w_ hM hS => ⟨w_, ⟨hM.cell 3 rfl rfl, rfl⟩, hM, trivial⟩) ?_
  refine ops_nil (fin_then (st_block (st_seq (st_region [oF 0, oF 1] (by rfl) ?_))))
  refine oQ [oF 0, oF 1] [(29, .bool (m_0 == 0)), (27, vI m_0), (8, vP b43 0), (7, vI x4), (6, vI x3), (4, vP b2 0), (3, vP b1 0), (0, sl A_k k c_k)] (by kernel_rfl) ?_
  refine ops_nil (fin_then ?_)
  refine st_if (b := (m_0 == 0)) rfl (fun hc53 => ?_) (fun hc53 => ?_)
  ·
   have hp := cnd_t hc53 hp
   refine st_region [oF 0, oF 1, oF 2, oF 3, oF 4] (by rfl) ?_
   refine oQ [oF 0, oF 1] [(32, vP b1 8), (8, vP b43 0), (4, vP b2 0)] (by kernel_rfl) ?_
   refine ops_mem (d := some 33) (an := [.v (.string m_8)]) (evs := [ld b1 8 (.string m_8)]) (v := .string m_8) ⟨by kernel_rfl⟩ (fun w_ hM hS => ⟨w_, ⟨hM.cell 3 rfl rfl, rfl⟩, hM, trivial⟩) ?_
   refine oQ [oF 3] [(34, vP b43 1), (33, .string m_8), (8, vP b43 0), (4, vP b2 0)] (by kernel_rfl) ?_
   refine ops_store (an := []) (evs := [sr b43 1 (.string m_8)]) ⟨by kernel_rfl⟩ (fun w_ hM hS => let ⟨w', he, h'⟩ := hM.evs_stores [.string m_8] 0 rfl 1 (Nat.le_of_ble_eq_true rfl); ⟨w', he, h', trivial⟩) ?_
   refine oQ [] [(8, vP b43 0), (4, vP b2 0)] (by kernel_rfl) ?_
   refine ops_nil (fin_block ?_)
   refine fin_conv (l' := [(8, vP b43 0), (4, vP b2 0)]) (M' := Mem w0 (ow none ([] : List api_Field) 0 32 3 [] :: .blk b43 [vI x38, .string m_8, .string ByteArray.empty, .string ByteArray.empty, vI 0, .string ByteArray.empty, vI 0, vI 0, .string ByteArray.empty, .slice none 0 0] 37 :: .obj g6 (.map es34 ck35) :: .blk b2 [vI 0, .string ByteArray.empty, .string ByteArray.empty, .string ByteArray.empty, vI 0, .string ByteArray.empty, vI 0, vI 0, .string ByteArray.empty, .slice none 0 0] 37 :: .blk b1 [vI m_0, .string m_1, .string m_2, .string m_3, vI m_4, .string m_5, vI m_6, vI m_7, .string m_8, sl A_m_9 m_9 c_m_9] 37 :: Fz F W :: cs)) rfl (fun w_ h => h.onil none 32 3) ?_
   refine fin_conv (l' := [(8, vP b43 0), (4, vP b2 0)]) (M' := Mem w0 (ow none ([] : List api_Field) 0 32 3 [] :: ow none ([] : List api_Field) 0 32 3 [] :: .blk b43 [vI x38, .string m_8, .string ByteArray.empty, .string ByteArray.empty, vI 0, .string ByteArray.empty, vI 0, vI 0, .string ByteArray.empty, .slice none 0 0] 37 :: .obj g6 (.map es34 ck35) :: .blk b2 [vI 0, .string ByteArray.empty, .string ByteArray.empty, .string ByteArray.empty, vI 0, .string ByteArray.empty, vI 0, vI 0, .string ByteArray.empty, sl none ([] : List api_Field) 0] 37 :: .blk b1 [vI m_0, .string m_1, .string m_2, .string m_3, vI m_4, .string m_5, vI m_6, vI m_7, .string m_8, sl A_m_9 m_9 c_m_9] 37 :: Fz F W :: cs)) rfl (fun w_ h => h.onil none 32 3) ?_
   refine fin_conv (l' := [(8, vP b43 0), (4, vP b2 0)]) (M' := Mem w0 (ow none ([] : List api_Field) 0 32 3 [] :: ow none ([] : List api_Field) 0 32 3 [] :: .blk b43 [vI x38, .string m_8, .string ByteArray.empty, .string ByteArray.empty, vI 0, .string ByteArray.empty, vI 0, vI 0, .string ByteArray.empty, sl none ([] : List api_Field) 0] 37 :: .obj g6 (.map es34 ck35) :: .blk b2 [vI 0, .string ByteArray.empty, .string ByteArray.empty, .string ByteArray.empty, vI 0, .string ByteArray.empty, vI 0, vI 0, .string ByteArray.empty, sl none ([] : List api_Field) 0] 37 :: .blk b1 [vI m_0, .string m_1, .string m_2, .string m_3, vI m_4, .string m_5, vI m_6, vI m_7, .string m_8, sl A_m_9 m_9 c_m_9] 37 :: Fz F W :: cs)) rfl (fun _ h => h) ?_
   exact fin_join HJ1 (none, 0, [], m_8, ByteArray.empty, ByteArray.empty, []) ⟨hp, (RepL.nil (R := R_api_Field)), (RepL.nil (R := R_api_Field))⟩ (look_has ⟨rfl, rfl, trivial⟩) (fun w_ hM => hM.pick 7 [4, 1, 2, 0, 6] (by kernel_rfl) (by decide) rfl)
  ·
   have hp := cnd_f hc53 hp
   refine st_seq (st_region [oF 0, oF 1] (by rfl) ?_)
   refine oQ [oF 0, oF 1] [(35, .bool (m_0 == 2)), (27, vI m_0), (8, vP b43 0), (7, vI x4), (6, vI x3), (4, vP b2 0), (3, vP b1 0), (0, sl A_k k c_k)] (by kernel_rfl) ?_
   refine ops_nil (fin_then ?_)
   refine st_if (b := (m_0 == 2)) rfl (fun hc54 => ?_) (fun hc54 => ?_)
   ·
    have hp := cnd_t hc54 hp
    refine st_region_draw [oT 0, oT 1, oT 2, oT 3, oT 4, oF 5, oT 6, oF 7] (Mem w0 (.obj g6 (.map es34 ck35) :: .blk b2 [vI 0, .string ByteArray.empty, .string ByteArray.empty, .string ByteArray.empty, vI 0, .string ByteArray.empty, vI 0, vI 0, .string ByteArray.empty, .slice none 0 0] 37 :: .blk b1 [vI m_0, .string m_1, .string m_2, .string m_3, vI m_4, .string m_5, vI m_6, vI m_7, .string m_8, sl A_m_9 m_9 c_m_9] 37 :: Fz F W :: cs)) (by kernel_rfl) (by kernel_rfl) (by kernel_rfl) (fun _ d _ _ _ h => by cases d <;> exact h) (M' := Mem w0 (.blk b43 [vI x38, .string ByteArray.empty, .string ByteArray.empty, .string ByteArray.empty, vI 0, .string ByteArray.empty, vI 0, vI 0, .string ByteArray.empty, .slice none 0 0] 37 :: .obj g6 (.map es34 ck35) :: .blk b2 [vI 0, .string ByteArray.empty, .string ByteArray.empty, .string ByteArray.empty, vI 0, .string ByteArray.empty, vI 0, vI 0, .string ByteArray.empty, .slice none 0 0] 37 :: .blk b1 [vI m_0, .string m_1, .string m_2, .string m_3, vI m_4, .string m_5, vI m_6, vI m_7, .string m_8, sl A_m_9 m_9 c_m_9] 37 :: Fz F W :: cs)) (fun w_ hM => ⟨hM.drew, hM.drew.sub (.cons _ (.cons_cons _ (.cons_cons _ (.cons_cons _ (.cons_cons _ (.refl _))))))⟩) ?_
    refine oQ [oT 0] [(37, vP b1 3), (8, vP b43 0), (4, vP b2 0), (3, vP b1 0)] (by kernel_rfl) ?_
    refine ops_load (d := some 38) (an := [.v (.string m_3)]) (evs := [ld b1 3 (.string m_3)]) (v := .string m_3) ⟨by kernel_rfl⟩ (fun w_ hM => ⟨hM.cell 2 rfl rfl, rfl⟩) ?_
    refine oQ [oT 2] [(39, vP b1 1), (38, .string m_3), (8, vP b43 0), (4, vP b2 0)] (by kernel_rfl) ?_
    refine ops_load (d := some 40) (an := [.v (.string m_1)]) (evs := [ld b1 1 (.string m_1)]) (v := .string m_1) ⟨by kernel_rfl⟩ (fun w_ hM => ⟨hM.cell 2 rfl rfl, rfl⟩) ?_
    refine oQ [oT 4] [(41, vP b43 1), (40, .string m_1), (38, .string m_3), (8, vP b43 0), (4, vP b2 0)] (by kernel_rfl) ?_
    refine ops_store (an := []) (evs := [sr b43 1 (.string m_3)]) ⟨by kernel_rfl⟩ (fun w_ hM hS => let ⟨w', he, h'⟩ := hM.evs_stores [.string m_3] 0 rfl 1 (Nat.le_of_ble_eq_true rfl); ⟨w', he, h', (by exact h'.sub (.cons _ (.cons_cons _ (.cons_cons _ (.cons_cons _ (.cons_cons _ (.refl _)))))))⟩) ?_
    refine oQ [oT 6] [(42, vP b43 3), (40, .string m_1), (8, vP b43 0), (4, vP b2 0)] (by kernel_rfl) ?_
    refine ops_store (an := []) (evs := [sr b43 3 (.string m_1)]) ⟨by kernel_rfl⟩ (fun w_ hM hS => let ⟨w', he, h'⟩ := hM.evs_stores [.string m_1] 0 rfl 3 (Nat.le_of_ble_eq_true rfl); ⟨w', he, h', (by exact h'.sub (.cons _ (.cons_cons _ (.cons_cons _ (.cons_cons _ (.cons_cons _ (.refl _)))))))⟩) ?_
    refine oQ [] [(8, vP b43 0), (4, vP b2 0)] (by kernel_rfl) ?_
    refine ops_nil (fin_block ?_)
    refine fin_conv (l' := [(8, vP b43 0), (4, vP b2 0)]) (M' := Mem w0 (ow none ([] : List api_Field) 0 32 3 [] :: .blk b43 [vI x38, .string m_3, .string ByteArray.empty, .string m_1, vI 0, .string ByteArray.empty, vI 0, vI 0, .string ByteArray.empty, .slice none 0 0] 37 :: .obj g6 (.map es34 ck35) :: .blk b2 [vI 0, .string ByteArray.empty, .string ByteArray.empty, .string ByteArray.empty, vI 0, .string ByteArray.empty, vI 0, vI 0, .string ByteArray.empty, .slice none 0 0] 37 :: .blk b1 [vI m_0, .string m_1, .string m_2, .string m_3, vI m_4, .string m_5, vI m_6, vI m_7, .string m_8, sl A_m_9 m_9 c_m_9] 37 :: Fz F W :: cs)) rfl (fun w_ h => h.onil none 32 3) ?_
    refine fin_conv (l' := [(8, vP b43 0), (4, vP b2 0)]) (M' := Mem w0 (ow none ([] : List api_Field) 0 32 3 [] :: ow none ([] : List api_Field) 0 32 3 [] :: .blk b43 [vI x38, .string m_3, .string ByteArray.empty, .string m_1, vI 0, .string ByteArray.empty, vI 0, vI 0, .string ByteArray.empty, .slice none 0 0] 37 :: .obj g6 (.map es34 ck35) :: .blk b2 [vI 0, .string ByteArray.empty, .string ByteArray.empty, .string ByteArray.empty, vI 0, .string ByteArray.empty, vI 0, vI 0, .string ByteArray.empty, sl none ([] : List api_Field) 0] 37 :: .blk b1 [vI m_0, .string m_1, .string m_2, .string m_3, vI m_4, .string m_5, vI m_6, vI m_7, .string m_8, sl A_m_9 m_9 c_m_9] 37 :: Fz F W :: cs)) rfl (fun w_ h => h.onil none 32 3) ?_
    refine fin_conv (l' := [(8, vP b43 0), (4, vP b2 0)]) (M' := Mem w0 (ow none ([] : List api_Field) 0 32 3 [] :: ow none ([] : List api_Field) 0 32 3 [] :: .blk b43 [vI x38, .string m_3, .string ByteArray.empty, .string m_1, vI 0, .string ByteArray.empty, vI 0, vI 0, .string ByteArray.empty, sl none ([] : List api_Field) 0] 37 :: .obj g6 (.map es34 ck35) :: .blk b2 [vI 0, .string ByteArray.empty, .string ByteArray.empty, .string ByteArray.empty, vI 0, .string ByteArray.empty, vI 0, vI 0, .string ByteArray.empty, sl none ([] : List api_Field) 0] 37 :: .blk b1 [vI m_0, .string m_1, .string m_2, .string m_3, vI m_4, .string m_5, vI m_6, vI m_7, .string m_8, sl A_m_9 m_9 c_m_9] 37 :: Fz F W :: cs)) rfl (fun _ h => h) ?_
    exact fin_join HJ1 (none, 0, [], m_3, ByteArray.empty, m_1, []) ⟨hp, (RepL.nil (R := R_api_Field)), (RepL.nil (R := R_api_Field))⟩ (look_has ⟨rfl, rfl, trivial⟩) (fun w_ hM => hM.pick 7 [4, 1, 2, 0, 6] (by kernel_rfl) (by decide) rfl)
   ·
    have hp := cnd_f hc54 hp
    refine st_seq (st_region [oF 0, oF 1] (by rfl) ?_)
    refine oQ [oF 0, oF 1] [(43, .bool (m_0 == 3)), (27, vI m_0), (8, vP b43 0), (7, vI x4), (6, vI x3), (4, vP b2 0), (3, vP b1 0), (0, sl A_k k c_k)] (by kernel_rfl) ?_
    refine ops_nil (fin_then ?_)
    refine st_if (b := (m_0 == 3)) rfl (fun hc55 => ?_) (fun hc55 => ?_)
    ·
     have hp := cnd_t hc55 hp
     refine st_region_draw [oT 0, oT 1, oT 2, oT 3, oT 4, oT 5, oF 6, oT 7, oF 8] (Mem w0 (.obj g6 (.map es34 ck35) :: .blk b2 [vI 0, .string ByteArray.empty, .string ByteArray.empty, .string ByteArray.empty, vI 0, .string ByteArray.empty, vI 0, vI 0, .string ByteArray.empty, .slice none 0 0] 37 :: .blk b1 [vI m_0, .string m_1, .string m_2, .string m_3, vI m_4, .string m_5, vI m_6, vI m_7, .string m_8, sl A_m_9 m_9 c_m_9] 37 :: Fz F W :: cs)) (by kernel_rfl) (by kernel_rfl) (by kernel_rfl) (fun _ d _ _ _ h => by cases d <;> exact h) (M' := Mem w0 (.blk b43 [vI x38, .string ByteArray.empty, .string ByteArray.empty, .string ByteArray.empty, vI 0, .string ByteArray.empty, vI 0, vI 0, .string ByteArray.empty, .slice none 0 0] 37 :: .obj g6 (.map es34 ck35) :: .blk b2 [vI 0, .string ByteArray.empty, .string ByteArray.empty, .string ByteArray.empty, vI 0, .string ByteArray.empty, vI 0, vI 0, .string ByteArray.empty, .slice none 0 0] 37 :: .blk b1 [vI m_0, .string m_1, .string m_2, .string m_3, vI m_4, .string m_5, vI m_6, vI m_7, .string m_8, sl A_m_9 m_9 c_m_9] 37 :: Fz F W :: cs)) (fun w_ hM => ⟨hM.drew, hM.drew.sub (.cons _ (.cons_cons _ (.cons_cons _ (.cons_cons _ (.cons_cons _ (.refl _))))))⟩) ?_
     refine oQ [oT 0] [(45, vP b1 1), (8, vP b43 0), (4, vP b2 0), (3, vP b1 0)] (by kernel_rfl) ?_
     refine ops_load (d := some 46) (an := [.v (.string m_1)]) (evs := [ld b1 1 (.string m_1)]) (v := .string m_1) ⟨by kernel_rfl⟩ (fun w_ hM => ⟨hM.cell 2 rfl rfl, rfl⟩) ?_
     refine oQ [oT 2, oT 3] [(48, vP b1 5), (46, .string m_1), (8, vP b43 0), (4, vP b2 0)] (by kernel_rfl) ?_
     refine ops_load (d := some 49) (an := [.v (.string m_5)]) (evs := [ld b1 5 (.string m_5)]) (v := .string m_5) ⟨by kernel_rfl⟩ (fun w_ hM => ⟨hM.cell 2 rfl rfl, rfl⟩) ?_
     refine oQ [oT 5] [(50, vP b43 1), (49, .string m_5), (46, .string m_1), (8, vP b43 0), (4, vP b2 0)] (by kernel_rfl) ?_
     refine ops_store (an := []) (evs := [sr b43 1 (.string m_1)]) ⟨by kernel_rfl⟩ (fun w_ hM hS => let ⟨w', he, h'⟩ := hM.evs_stores [.string m_1] 0 rfl 1 (Nat.le_of_ble_eq_true rfl); ⟨w', he, h', (by exact h'.sub (.cons _ (.cons_cons _ (.cons_cons _ (.cons_cons _ (.cons_cons _ (.refl _)))))))⟩) ?_
     refine oQ [oT 7] [(51, vP b43 2), (49, .string m_5), (8, vP b43 0), (4, vP b2 0)] (by kernel_rfl) ?_
     refine ops_store (an := []) (evs := [sr b43 2 (.string m_5)]) ⟨by kernel_rfl⟩ (fun w_ hM hS => let ⟨w', he, h'⟩ := hM.evs_stores [.string m_5] 0 rfl 2 (Nat.le_of_ble_eq_true rfl); ⟨w', he, h', (by exact h'.sub (.cons _ (.cons_cons _ (.cons_cons _ (.cons_cons _ (.cons_cons _ (.refl _)))))))⟩) ?_
     refine oQ [] [(8, vP b43 0), (4, vP b2 0)] (by kernel_rfl) ?_
     refine ops_nil (fin_block ?_)
     refine fin_conv (l' := [(8, vP b43 0), (4, vP b2 0)]) (M' := Mem w0 (ow none ([] : List api_Field) 0 32 3 [] :: .blk b43 [vI x38, .string m_1, .string m_5, .string ByteArray.empty, vI 0, .string ByteArray.empty, vI 0, vI 0, .string ByteArray.empty, .slice none 0 0] 37 :: .obj g6 (.map es34 ck35) :: .blk b2 [vI 0, .string ByteArray.empty, .string ByteArray.empty, .string ByteArray.empty, vI 0, .string ByteArray.empty, vI 0, vI 0, .string ByteArray.empty, .slice none 0 0] 37 :: .blk b1 [vI m_0, .string m_1, .string m_2, .string m_3, vI m_4, .string m_5, vI m_6, vI m_7, .string m_8, sl A_m_9 m_9 c_m_9] 37 :: Fz F W :: cs)) rfl (fun w_ h => h.onil none 32 3) ?_
     refine fin_conv (l' := [(8, vP b43 0), (4, vP b2 0)]) (M' := Mem w0 (ow none ([] : List api_Field) 0 32 3 [] :: ow none ([] : List api_Field) 0 32 3 [] :: .blk b43 [vI x38, .string m_1, .string m_5, .string ByteArray.empty, vI 0, .string ByteArray.empty, vI 0, vI 0, .string ByteArray.empty, .slice none 0 0] 37 :: .obj g6 (.map es34 ck35) :: .blk b2 [vI 0, .string ByteArray.empty, .string ByteArray.empty, .string ByteArray.empty, vI 0, .string ByteArray.empty, vI 0, vI 0, .string ByteArray.empty, sl none ([] : List api_Field) 0] 37 :: .blk b1 [vI m_0, .string m_1, .string m_2, .string m_3, vI m_4, .string m_5, vI m_6, vI m_7, .string m_8, sl A_m_9 m_9 c_m_9] 37 :: Fz F W :: cs)) rfl (fun w_ h => h.onil none 32 3) ?_
     refine fin_conv (l' := [(8, vP b43 0), (4, vP b2 0)]) (M' := Mem w0 (ow none ([] : List api_Field) 0 32 3 [] :: ow none ([] : List api_Field) 0 32 3 [] :: .blk b43 [vI x38, .string m_1, .string m_5, .string ByteArray.empty, vI 0, .string ByteArray.empty, vI 0, vI 0, .string ByteArray.empty, sl none ([] : List api_Field) 0] 37 :: .obj g6 (.map es34 ck35) :: .blk b2 [vI 0, .string ByteArray.empty, .string ByteArray.empty, .string ByteArray.empty, vI 0, .string ByteArray.empty, vI 0, vI 0, .string ByteArray.empty, sl none ([] : List api_Field) 0] 37 :: .blk b1 [vI m_0, .string m_1, .string m_2, .string m_3, vI m_4, .string m_5, vI m_6, vI m_7, .string m_8, sl A_m_9 m_9 c_m_9] 37 :: Fz F W :: cs)) rfl (fun _ h => h) ?_
     exact fin_join HJ1 (none, 0, [], m_1, m_5, ByteArray.empty, []) ⟨hp, (RepL.nil (R := R_api_Field)), (RepL.nil (R := R_api_Field))⟩ (look_has ⟨rfl, rfl, trivial⟩) (fun w_ hM => hM.pick 7 [4, 1, 2, 0, 6] (by kernel_rfl) (by decide) rfl)
    ·
     have hp := cnd_f hc55 hp
     refine st_seq (st_region [oF 0, oF 1] (by rfl) ?_)
     refine oQ [oF 0, oF 1] [(52, .bool (m_0 == 5)), (27, vI m_0), (8, vP b43 0), (7, vI x4), (6, vI x3), (4, vP b2 0), (3, vP b1 0), (0, sl A_k k c_k)] (by kernel_rfl) ?_
     refine ops_nil (fin_then ?_)
     refine st_if (b := (m_0 == 5)) rfl (fun hc56 => ?_) (fun hc56 => ?_)
     ·
      have hp := cnd_t hc56 hp
      refine st_region_draw [oT 0, oT 1, oT 2, oT 3, oT 4, oT 5, oT 6, oF 7, oT 8, oF 9, oT 10, oF 11] (Mem w0 (.obj g6 (.map es34 ck35) :: .blk b2 [vI 0, .string ByteArray.empty, .string ByteArray.empty, .string ByteArray.empty, vI 0, .string ByteArray.empty, vI 0, vI 0, .string ByteArray.empty, .slice none 0 0] 37 :: .blk b1 [vI m_0, .string m_1, .string m_2, .string m_3, vI m_4, .string m_5, vI m_6, vI m_7, .string m_8, sl A_m_9 m_9 c_m_9] 37 :: Fz F W :: cs)) (by kernel_rfl) (by kernel_rfl) (by kernel_rfl) (fun _ d _ _ _ h => by cases d <;> exact h) (M' := Mem w0 (.blk b43 [vI x38, .string ByteArray.empty, .string ByteArray.empty, .string ByteArray.empty, vI 0, .string ByteArray.empty, vI 0, vI 0, .string ByteArray.empty, .slice none 0 0] 37 :: .obj g6 (.map es34 ck35) :: .blk b2 [vI 0, .string ByteArray.empty, .string ByteArray.empty, .string ByteArray.empty, vI 0, .string ByteArray.empty, vI 0, vI 0, .string ByteArray.empty, .slice none 0 0] 37 :: .blk b1 [vI m_0, .string m_1, .string m_2, .string m_3, vI m_4, .string m_5, vI m_6, vI m_7, .string m_8, sl A_m_9 m_9 c_m_9] 37 :: Fz F W :: cs)) (fun w_ hM => ⟨hM.drew, hM.drew.sub (.cons _ (.cons_cons _ (.cons_cons _ (.cons_cons _ (.cons_cons _ (.refl _))))))⟩) ?_
      refine oQ [oT 0] [(54, vP b1 1), (8, vP b43 0), (4, vP b2 0), (3, vP b1 0)] (by kernel_rfl) ?_
      refine ops_load (d := some 55) (an := [.v (.string m_1)]) (evs := [ld b1 1 (.string m_1)]) (v := .string m_1) ⟨by kernel_rfl⟩ (fun w_ hM => ⟨hM.cell 2 rfl rfl, rfl⟩) ?_
      refine oQ [oT 2] [(56, vP b1 3), (55, .string m_1), (8, vP b43 0), (4, vP b2 0), (3, vP b1 0)] (by kernel_rfl) ?_
      refine ops_load (d := some 57) (an := [.v (.string m_3)]) (evs := [ld b1 3 (.string m_3)]) (v := .string m_3) ⟨by kernel_rfl⟩ (fun w_ hM => ⟨hM.cell 2 rfl rfl, rfl⟩) ?_
      refine oQ [oT 4] [(58, vP b1 2), (57, .string m_3), (55, .string m_1), (8, vP b43 0), (4, vP b2 0)] (by kernel_rfl) ?_
      refine ops_load (d := some 59) (an := [.v (.string m_2)]) (evs := [ld b1 2 (.string m_2)]) (v := .string m_2) ⟨by kernel_rfl⟩ (fun w_ hM => ⟨hM.cell 2 rfl rfl, rfl⟩) ?_
      refine oQ [oT 6] [(60, vP b43 1), (59, .string m_2), (57, .string m_3), (55, .string m_1), (8, vP b43 0), (4, vP b2 0)] (by kernel_rfl) ?_
      refine ops_store (an := []) (evs := [sr b43 1 (.string m_1)]) ⟨by kernel_rfl⟩ (fun w_ hM hS => let ⟨w', he, h'⟩ := hM.evs_stores [.string m_1] 0 rfl 1 (Nat.le_of_ble_eq_true rfl); ⟨w', he, h', (by exact h'.sub (.cons _ (.cons_cons _ (.cons_cons _ (.cons_cons _ (.cons_cons _ (.refl _)))))))⟩) ?_
      refine oQ [oT 8] [(61, vP b43 2), (59, .string m_2), (57, .string m_3), (8, vP b43 0), (4, vP b2 0)] (by kernel_rfl) ?_
      refine ops_store (an := []) (evs := [sr b43 2 (.string m_3)]) ⟨by kernel_rfl⟩ (fun w_ hM hS => let ⟨w', he, h'⟩ := hM.evs_stores [.string m_3] 0 rfl 2 (Nat.le_of_ble_eq_true rfl); ⟨w', he, h', (by exact h'.sub (.cons _ (.cons_cons _ (.cons_cons _ (.cons_cons _ (.cons_cons _ (.refl _)))))))⟩) ?_
      refine oQ [oT 10] [(62, vP b43 3), (59, .string m_2), (8, vP b43 0), (4, vP b2 0)] (by kernel_rfl) ?_
      refine ops_store (an := []) (evs := [sr b43 3 (.string m_2)]) ⟨by kernel_rfl⟩ (fun w_ hM hS => let ⟨w', he, h'⟩ := hM.evs_stores [.string m_2] 0 rfl 3 (Nat.le_of_ble_eq_true rfl); ⟨w', he, h', (by exact h'.sub (.cons _ (.cons_cons _ (.cons_cons _ (.cons_cons _ (.cons_cons _ (.refl _)))))))⟩) ?_
      refine oQ [] [(8, vP b43 0), (4, vP b2 0)] (by kernel_rfl) ?_
      refine ops_nil (fin_block ?_)
      refine fin_conv (l' := [(8, vP b43 0), (4, vP b2 0)]) (M' := Mem w0 (ow none ([] : List api_Field) 0 32 3 [] :: .blk b43 [vI x38, .string m_1, .string m_3, .string m_2, vI 0, .string ByteArray.empty, vI 0, vI 0, .string ByteArray.empty, .slice none 0 0] 37 :: .obj g6 (.map es34 ck35) :: .blk b2 [vI 0, .string ByteArray.empty, .string ByteArray.empty, .string ByteArray.empty, vI 0, .string ByteArray.empty, vI 0, vI 0, .string ByteArray.empty, .slice none 0 0] 37 :: .blk b1 [vI m_0, .string m_1, .string m_2, .string m_3, vI m_4, .string m_5, vI m_6, vI m_7, .string m_8, sl A_m_9 m_9 c_m_9] 37 :: Fz F W :: cs)) rfl (fun w_ h => h.onil none 32 3) ?_
      refine fin_conv (l' := [(8, vP b43 0), (4, vP b2 0)]) (M' := Mem w0 (ow none ([] : List api_Field) 0 32 3 [] :: ow none ([] : List api_Field) 0 32 3 [] :: .blk b43 [vI x38, .string m_1, .string m_3, .string m_2, vI 0, .string ByteArray.empty, vI 0, vI 0, .string ByteArray.empty, .slice none 0 0] 37 :: .obj g6 (.map es34 ck35) :: .blk b2 [vI 0, .string ByteArray.empty, .string ByteArray.empty, .string ByteArray.empty, vI 0, .string ByteArray.empty, vI 0, vI 0, .string ByteArray.empty, sl none ([] : List api_Field) 0] 37 :: .blk b1 [vI m_0, .string m_1, .string m_2, .string m_3, vI m_4, .string m_5, vI m_6, vI m_7, .string m_8, sl A_m_9 m_9 c_m_9] 37 :: Fz F W :: cs)) rfl (fun w_ h => h.onil none 32 3) ?_
      refine fin_conv (l' := [(8, vP b43 0), (4, vP b2 0)]) (M' := Mem w0 (ow none ([] : List api_Field) 0 32 3 [] :: ow none ([] : List api_Field) 0 32 3 [] :: .blk b43 [vI x38, .string m_1, .string m_3, .string m_2, vI 0, .string ByteArray.empty, vI 0, vI 0, .string ByteArray.empty, sl none ([] : List api_Field) 0] 37 :: .obj g6 (.map es34 ck35) :: .blk b2 [vI 0, .string ByteArray.empty, .string ByteArray.empty, .string ByteArray.empty, vI 0, .string ByteArray.empty, vI 0, vI 0, .string ByteArray.empty, sl none ([] : List api_Field) 0] 37 :: .blk b1 [vI m_0, .string m_1, .string m_2, .string m_3, vI m_4, .string m_5, vI m_6, vI m_7, .string m_8, sl A_m_9 m_9 c_m_9] 37 :: Fz F W :: cs)) rfl (fun _ h => h) ?_
      exact fin_join HJ1 (none, 0, [], m_1, m_3, m_2, []) ⟨hp, (RepL.nil (R := R_api_Field)), (RepL.nil (R := R_api_Field))⟩ (look_has ⟨rfl, rfl, trivial⟩) (fun w_ hM => hM.pick 7 [4, 1, 2, 0, 6] (by kernel_rfl) (by decide) rfl)
     ·
      have hp := cnd_f hc56 hp
      refine st_seq (st_region [oF 0, oF 1] (by rfl) ?_)
      refine oQ [oF 0, oF 1] [(63, .bool (m_0 == 6)), (8, vP b43 0), (7, vI x4), (6, vI x3), (4, vP b2 0), (3, vP b1 0), (0, sl A_k k c_k)] (by kernel_rfl) ?_
      refine ops_nil (fin_then ?_)
      refine st_if (b := (m_0 == 6)) rfl (fun hc57 => ?_) (fun hc57 => ?_)
      ·
       have hp := cnd_t hc57 hp
       refine st_seq (st_region [oF 0, oF 1, oF 2, oF 3, oF 4, oF 5, oF 6, oF 7, oF 8, oF 9] (by rfl) ?_)
       refine oQ [oF 0, oF 1] [(66, vI x3), (65, sl A_k k c_k), (8, vP b43 0), (7, vI x4), (4, vP b2 0), (3, vP b1 0)] (by kernel_rfl) ?_
       obtain ⟨x58, hv59, hp⟩ := obind hp
       obtain ⟨m60, hm61, hx62⟩ := idx_some hv59
       have hl65 := (List.getElem?_eq_some_iff.1 hx62).1
       obtain ⟨ad66, vs63, hA67, hr64, hq68⟩ := RdS.el h_k hx62
       obtain ⟨A69, c70, rfl, h71⟩ := dec_api_Kind hr64
       refine ops_val (op := (.indexAddr 22 (.tmp 65) (.tmp 66))) (d := some 67) (v := .pointer (some (ad66.add (m60 * 2)))) ⟨by kernel_rfl⟩ (run_indexA hA67 Tryd.underlying22 (z := 2) (by kernel_rfl) rfl rfl hm61 hl65) ?_
       refine oQ [oF 3] [(68, .pointer (some ((ad66.add (m60 * 2)).add 1))), (8, vP b43 0), (7, vI x4), (4, vP b2 0), (3, vP b1 0)] (by kernel_rfl) ?_
       refine ops_mem (d := some 69) (an := [.v (sl A69 x58.Fields c70)]) (evs := [.load ((ad66.add (m60 * 2)).add 1) (sl A69 x58.Fields c70)]) (v := sl A69 x58.Fields c70) ⟨by kernel_rfl⟩ (fun w_ hM hS => ⟨w_, ⟨hM.elcell 4 rfl hq68 1 rfl, rfl⟩, hM, trivial⟩) ?_
       refine oQ [oF 5] [(70, vI x4), (69, sl A69 x58.Fields c70), (8, vP b43 0), (4, vP b2 0), (3, vP b1 0)] (by kernel_rfl) ?_
       obtain ⟨x72, hv73, hp⟩ := obind hp
       obtain ⟨m74, hm75, hx76⟩ := idx_some hv73
       have hl79 := (List.getElem?_eq_some_iff.1 hx76).1
       obtain ⟨ad80, vs77, hA81, hr78, hq82⟩ := RdS.el h71 hx76
       obtain rfl := dec_api_Field hr78
       refine ops_val (op := (.indexAddr 33 (.tmp 69) (.tmp 70))) (d := some 71) (v := .pointer (some (ad80.add (m74 * 3)))) ⟨by kernel_rfl⟩ (run_indexA hA81 Tryd.underlying33 (z := 3) (by kernel_rfl) rfl rfl hm75 hl79) ?_
       refine ops_mem (d := some 72) (an := [.v (.string x72.Name), .v (vI x72.Bits), .v (vI x72.Low)]) (evs := [.load (ad80.add (m74 * 3)) (.string x72.Name), .load ((ad80.add (m74 * 3)).add 1) (vI x72.Bits), .load ((ad80.add (m74 * 3)).add 2) (vI x72.Low)]) (v := .agg #[.string x72.Name, vI x72.Bits, vI x72.Low]) ⟨by kernel_rfl⟩ (fun w_ hM hS => ⟨w_, ⟨hM.elcell 4 rfl hq82 0 rfl, hM.elcell 4 rfl hq82 1 rfl, hM.elcell 4 rfl hq82 2 rfl, rfl⟩, hM, trivial⟩) ?_
       refine ops_newB (d := some 9) [.string ByteArray.empty, vI 0, vI 0] 32 (fun b83 => ⟨by kernel_rfl⟩) (fun w_ hM hS => trivial) (fun b83 => ?_)
       refine ops_store (an := []) (evs := [sr b83 0 (.string x72.Name), sr b83 1 (vI x72.Bits), sr b83 2 (vI x72.Low)]) ⟨by kernel_rfl⟩ (fun w_ hM hS => let ⟨w', he, h'⟩ := hM.evs_stores [.string x72.Name, vI x72.Bits, vI x72.Low] 0 rfl 0 (Nat.le_of_ble_eq_true rfl); ⟨w', he, h', trivial⟩) ?_
       refine ops_nil (fin_then (st_seq (st_region [oF 0, oF 1, oF 2, oF 3, oF 4, oF 5, oF 6, oF 7, oF 8, oF 9, oF 10] (by rfl) ?_)))
       refine oQ [oF 0] [(73, vP b83 0), (9, vP b83 0), (8, vP b43 0), (4, vP b2 0), (3, vP b1 0)] (by kernel_rfl) ?_
       refine ops_mem (d := some 74) (an := [.v (.string x72.Name)]) (evs := [ld b83 0 (.string x72.Name)]) (v := .string x72.Name) ⟨by kernel_rfl⟩ (fun w_ hM hS => ⟨w_, ⟨hM.cell 0 rfl rfl, rfl⟩, hM, trivial⟩) ?_
       refine oQ [oF 2, oF 3] [(76, vP b1 6), (74, .string x72.Name), (9, vP b83 0), (8, vP b43 0), (4, vP b2 0), (3, vP b1 0)] (by kernel_rfl) ?_
       refine ops_mem (d := some 77) (an := [.v (vI m_6)]) (evs := [ld b1 6 (vI m_6)]) (v := vI m_6) ⟨by kernel_rfl⟩ (fun w_ hM hS => ⟨w_, ⟨hM.cell 4 rfl rfl, rfl⟩, hM, trivial⟩) ?_
       refine oQ [oF 5, oF 6] [(79, vP b1 7), (77, vI m_6), (74, .string x72.Name), (9, vP b83 0), (8, vP b43 0), (4, vP b2 0), (3, vP b1 0)] (by kernel_rfl) ?_
       refine ops_mem (d := some 80) (an := [.v (vI m_7)]) (evs := [ld b1 7 (vI m_7)]) (v := vI m_7) ⟨by kernel_rfl⟩ (fun w_ hM hS => ⟨w_, ⟨hM.cell 4 rfl rfl, rfl⟩, hM, trivial⟩) ?_
       refine oQ [oF 8] [(81, .agg #[.string x72.Name, vI m_6, vI m_7]), (9, vP b83 0), (8, vP b43 0), (4, vP b2 0), (3, vP b1 0)] (by kernel_rfl) ?_
       refine ops_newB (d := some 10) [.string ByteArray.empty, vI 0, vI 0] 32 (fun b84 => ⟨by kernel_rfl⟩) (fun w_ hM hS => trivial) (fun b84 => ?_)
       refine ops_store (an := []) (evs := [sr b84 0 (.string x72.Name), sr b84 1 (vI m_6), sr b84 2 (vI m_7)]) ⟨by kernel_rfl⟩ (fun w_ hM hS => let ⟨w', he, h'⟩ := hM.evs_stores [.string x72.Name, vI m_6, vI m_7] 0 rfl 0 (Nat.le_of_ble_eq_true rfl); ⟨w', he, h', trivial⟩) ?_
       refine ops_nil (fin_then (st_seq ?_))
       refine st_region_fast tourref3_Undone__t0 [oT 0, oT 1, oT 2, oT 3, oT 4, oT 5, oT 6, oT 7, oT 8, oT 9, oF 10, oT 11, oF 12, oT 13, oF 14] (Mem w0 (.blk b84 [.string x72.Name, vI m_6, vI m_7] 32 :: .blk b83 [.string x72.Name, vI x72.Bits, vI x72.Low] 32 :: .obj g6 (.map es34 ck35) :: .blk b2 [vI 0, .string ByteArray.empty, .string ByteArray.empty, .string ByteArray.empty, vI 0, .string ByteArray.empty, vI 0, vI 0, .string ByteArray.empty, .slice none 0 0] 37 :: .blk b1 [vI m_0, .string m_1, .string m_2, .string m_3, vI m_4, .string m_5, vI m_6, vI m_7, .string m_8, sl A_m_9 m_9 c_m_9] 37 :: Fz F W :: cs)) (by kernel_rfl) (by kernel_rfl) (by kernel_rfl) (by kernel_rfl) (by kernel_rfl) (fun _ d _ _ _ h => by cases d <;> exact h) (M' := Mem w0 (.blk b84 [.string x72.Name, vI m_6, vI m_7] 32 :: .blk b83 [.string x72.Name, vI x72.Bits, vI x72.Low] 32 :: .blk b43 [vI x38, .string ByteArray.empty, .string ByteArray.empty, .string ByteArray.empty, vI 0, .string ByteArray.empty, vI 0, vI 0, .string ByteArray.empty, .slice none 0 0] 37 :: .obj g6 (.map es34 ck35) :: .blk b2 [vI 0, .string ByteArray.empty, .string ByteArray.empty, .string ByteArray.empty, vI 0, .string ByteArray.empty, vI 0, vI 0, .string ByteArray.empty, .slice none 0 0] 37 :: .blk b1 [vI m_0, .string m_1, .string m_2, .string m_3, vI m_4, .string m_5, vI m_6, vI m_7, .string m_8, sl A_m_9 m_9 c_m_9] 37 :: Fz F W :: cs)) (fun w_ hM => ⟨hM.drew, hM.drew.sub (.cons_cons _ (.cons_cons _ (.cons _ (.cons_cons _ (.cons_cons _ (.cons_cons _ (.cons_cons _ (.refl _))))))))⟩) ?_
       refine oQ [oT 0] [(82, vP b1 1), (10, vP b84 0), (9, vP b83 0), (8, vP b43 0), (4, vP b2 0), (3, vP b1 0)] (by kernel_rfl) ?_
       refine ops_load (d := some 83) (an := [.v (.string m_1)]) (evs := [ld b1 1 (.string m_1)]) (v := .string m_1) ⟨by kernel_rfl⟩ (fun w_ hM => ⟨hM.cell 4 rfl rfl, rfl⟩) ?_
       refine oQ [oT 2] [(84, vP b1 2), (83, .string m_1), (10, vP b84 0), (9, vP b83 0), (8, vP b43 0), (4, vP b2 0)] (by kernel_rfl) ?_
       refine ops_load (d := some 85) (an := [.v (.string m_2)]) (evs := [ld b1 2 (.string m_2)]) (v := .string m_2) ⟨by kernel_rfl⟩ (fun w_ hM => ⟨hM.cell 4 rfl rfl, rfl⟩) ?_
       refine oQ [oT 4] [(86, vP b83 1), (85, .string m_2), (83, .string m_1), (10, vP b84 0), (9, vP b83 0), (8, vP b43 0), (4, vP b2 0)] (by kernel_rfl) ?_
       refine ops_load (d := some 87) (an := [.v (vI x72.Bits)]) (evs := [ld b83 1 (vI x72.Bits)]) (v := vI x72.Bits) ⟨by kernel_rfl⟩ (fun w_ hM => ⟨hM.cell 1 rfl rfl, rfl⟩) ?_
       refine oQ [oT 6] [(88, vP b83 2), (87, vI x72.Bits), (85, .string m_2), (83, .string m_1), (10, vP b84 0), (9, vP b83 0), (8, vP b43 0), (4, vP b2 0)] (by kernel_rfl) ?_
       refine ops_load (d := some 89) (an := [.v (vI x72.Low)]) (evs := [ld b83 2 (vI x72.Low)]) (v := vI x72.Low) ⟨by kernel_rfl⟩ (fun w_ hM => ⟨hM.cell 1 rfl rfl, rfl⟩) ?_
       refine oQ [oT 8, oT 9] [(91, vP b43 1), (90, .agg #[.string ByteArray.empty, vI x72.Bits, vI x72.Low]), (85, .string m_2), (83, .string m_1), (10, vP b84 0), (9, vP b83 0), (8, vP b43 0), (4, vP b2 0)] (by kernel_rfl) ?_
       refine ops_store (an := []) (evs := [sr b43 1 (.string m_1)]) ⟨by kernel_rfl⟩ (fun w_ hM hS => let ⟨w', he, h'⟩ := hM.evs_stores [.string m_1] 2 rfl 1 (Nat.le_of_ble_eq_true rfl); ⟨w', he, h', (by exact h'.sub (.cons_cons _ (.cons_cons _ (.cons _ (.cons_cons _ (.cons_cons _ (.cons_cons _ (.cons_cons _ (.refl _)))))))))⟩) ?_
       refine oQ [oT 11] [(92, vP b43 2), (90, .agg #[.string ByteArray.empty, vI x72.Bits, vI x72.Low]), (85, .string m_2), (10, vP b84 0), (9, vP b83 0), (8, vP b43 0), (4, vP b2 0)] (by kernel_rfl) ?_
       refine ops_store (an := []) (evs := [sr b43 2 (.string m_2)]) ⟨by kernel_rfl⟩ (fun w_ hM hS => let ⟨w', he, h'⟩ := hM.evs_stores [.string m_2] 2 rfl 2 (Nat.le_of_ble_eq_true rfl); ⟨w', he, h', (by exact h'.sub (.cons_cons _ (.cons_cons _ (.cons _ (.cons_cons _ (.cons_cons _ (.cons_cons _ (.cons_cons _ (.refl _)))))))))⟩) ?_
       refine oQ [oT 13] [(93, vP b43 5), (90, .agg #[.string ByteArray.empty, vI x72.Bits, vI x72.Low]), (10, vP b84 0), (9, vP b83 0), (8, vP b43 0), (4, vP b2 0)] (by kernel_rfl) ?_
       refine ops_store (an := []) (evs := [sr b43 5 (.string ByteArray.empty), sr b43 6 (vI x72.Bits), sr b43 7 (vI x72.Low)]) ⟨by kernel_rfl⟩ (fun w_ hM hS => let ⟨w', he, h'⟩ := hM.evs_stores [.string ByteArray.empty, vI x72.Bits, vI x72.Low] 2 rfl 5 (Nat.le_of_ble_eq_true rfl); ⟨w', he, h', (by exact h'.sub (.cons_cons _ (.cons_cons _ (.cons _ (.cons_cons _ (.cons_cons _ (.cons_cons _ (.cons_cons _ (.refl _)))))))))⟩) ?_
       refine ops_nil (fin_then ?_)
       refine st_join1 (σ := (Option Addr) × Nat × (List Value) × Bool) (L := fun x_ => match x_ with | (A85, c86, y87, t89) => [(4, vP b2 0), (5, .bool t89)]) (N := fun x_ => match x_ with | (A85, c86, y87, t89) => Mem w0 (.blk b2 [vI x38, .string m_1, .string m_2, .string ByteArray.empty, vI 0, .string ByteArray.empty, vI x72.Bits, vI x72.Low, .string ByteArray.empty, sl A85 ([] : List api_Field) c86] 37 :: ow A85 ([] : List api_Field) c86 32 3 y87 :: Fz F W :: cs)) (I := fun x_ => match x_ with | (A85, c86, y87, t89) => ((tourref3_Undone_j2 x38 m_1 m_2 x72) t89 = some (i9001, u9002, u9003, u9004, i9005, i9006, l9009, t9012)) ∧ (RepL R_api_Field F W ([] : List api_Field) y87)) ?_ ?_
       ·
        rintro ⟨A85, c86, y87, t89⟩ ⟨hp, h88⟩
        unfold tourref3_Undone_j2 at hp
        refine st_ret (fin_ret_block (fin_ret_then ?_))
        have hq_ := Option.some.inj hp
        obtain ⟨hr0_, hq_⟩ := Prod.mk.inj hq_
        obtain ⟨hr1_, hq_⟩ := Prod.mk.inj hq_
        obtain ⟨hr2_, hq_⟩ := Prod.mk.inj hq_
        obtain ⟨hr3_, hq_⟩ := Prod.mk.inj hq_
        obtain ⟨hr4_, hq_⟩ := Prod.mk.inj hq_
        obtain ⟨hr5_, hq_⟩ := Prod.mk.inj hq_
        obtain ⟨hr6_, hq_⟩ := Prod.mk.inj hq_
        have hr7_ := hq_
        subst hr0_
        subst hr1_
        subst hr2_
        subst hr3_
        subst hr4_
        subst hr5_
        subst hr6_
        subst hr7_
        refine fin_ret [.cell 4 37, .tmp 5] [.agg #[vI x38, .string m_1, .string m_2, .string ByteArray.empty, vI 0, .string ByteArray.empty, vI x72.Bits, vI x72.Low, .string ByteArray.empty, sl A85 ([] : List api_Field) c86], .bool t89] rfl rfl (fun w_ hM => (.cell rfl (tr_run _ [.v (vI x38), .v (.string m_1), .v (.string m_2), .v (.string ByteArray.empty), .v (vI 0), .v (.string ByteArray.empty), .v (vI x72.Bits), .v (vI x72.Low), .v (.string ByteArray.empty), .v (sl A85 ([] : List api_Field) c86)] [ld b2 0 (vI x38), ld b2 1 (.string m_1), ld b2 2 (.string m_2), ld b2 3 (.string ByteArray.empty), ld b2 4 (vI 0), ld b2 5 (.string ByteArray.empty), ld b2 6 (vI x72.Bits), ld b2 7 (vI x72.Low), ld b2 8 (.string ByteArray.empty), ld b2 9 (sl A85 ([] : List api_Field) c86)] (.agg #[vI x38, .string m_1, .string m_2, .string ByteArray.empty, vI 0, .string ByteArray.empty, vI x72.Bits, vI x72.Low, .string ByteArray.empty, sl A85 ([] : List api_Field) c86] : Value) _ _ (by kernel_rfl) ⟨hM.cell 0 rfl rfl, hM.cell 0 rfl rfl, hM.cell 0 rfl rfl, hM.cell 0 rfl rfl, hM.cell 0 rfl rfl, hM.cell 0 rfl rfl, hM.cell 0 rfl rfl, hM.cell 0 rfl rfl, hM.cell 0 rfl rfl, hM.cell 0 rfl rfl, rfl⟩) (.tmp rfl .nil))) (fun w_ hM => ?_)
        exact ⟨A85, c86, y87, h88, rfl, hM.pick 3 [1, 2] (by kernel_rfl) (by decide) rfl⟩
       ·
        intro HJ2
        refine st_seq ?_
        refine st_region_fast tourref3_Undone__t1 [oT 0, oT 1, oT 2, oT 3, oT 5, oT 6, oF 4, oT 7, oT 8, oT 9, oT 10, oT 13, oF 11, oF 12, oF 14, oT 15, oT 16, oF 17, oT 18] (Mem w0 (.blk b84 [.string x72.Name, vI m_6, vI m_7] 32 :: .blk b83 [.string x72.Name, vI x72.Bits, vI x72.Low] 32 :: .blk b43 [vI x38, .string m_1, .string m_2, .string ByteArray.empty, vI 0, .string ByteArray.empty, vI x72.Bits, vI x72.Low, .string ByteArray.empty, .slice none 0 0] 37 :: .obj g6 (.map es34 ck35) :: .blk b1 [vI m_0, .string m_1, .string m_2, .string m_3, vI m_4, .string m_5, vI m_6, vI m_7, .string m_8, sl A_m_9 m_9 c_m_9] 37 :: Fz F W :: cs)) (by kernel_rfl) (by kernel_rfl) (by kernel_rfl) (by kernel_rfl) (by kernel_rfl) (fun _ d _ _ _ h => by cases d <;> exact h) (M' := Mem w0 (.blk b84 [.string x72.Name, vI m_6, vI m_7] 32 :: .blk b83 [.string x72.Name, vI x72.Bits, vI x72.Low] 32 :: .blk b43 [vI x38, .string m_1, .string m_2, .string ByteArray.empty, vI 0, .string ByteArray.empty, vI x72.Bits, vI x72.Low, .string ByteArray.empty, .slice none 0 0] 37 :: .obj g6 (.map es34 ck35) :: .blk b2 [vI 0, .string ByteArray.empty, .string ByteArray.empty, .string ByteArray.empty, vI 0, .string ByteArray.empty, vI 0, vI 0, .string ByteArray.empty, .slice none 0 0] 37 :: .blk b1 [vI m_0, .string m_1, .string m_2, .string m_3, vI m_4, .string m_5, vI m_6, vI m_7, .string m_8, sl A_m_9 m_9 c_m_9] 37 :: Fz F W :: cs)) (fun w_ hM => ⟨hM.drew, hM.drew.sub (.cons_cons _ (.cons_cons _ (.cons_cons _ (.cons_cons _ (.cons _ (.cons_cons _ (.cons_cons _ (.refl _))))))))⟩) ?_
        refine ops_load (d := some 94) (an := [.v (vI x38), .v (.string m_1), .v (.string m_2), .v (.string ByteArray.empty), .v (vI 0), .v (.string ByteArray.empty), .v (vI x72.Bits), .v (vI x72.Low), .v (.string ByteArray.empty), .v (.slice none 0 0)]) (evs := [ld b43 0 (vI x38), ld b43 1 (.string m_1), ld b43 2 (.string m_2), ld b43 3 (.string ByteArray.empty), ld b43 4 (vI 0), ld b43 5 (.string ByteArray.empty), ld b43 6 (vI x72.Bits), ld b43 7 (vI x72.Low), ld b43 8 (.string ByteArray.empty), ld b43 9 (.slice none 0 0)]) (v := .agg #[vI x38, .string m_1, .string m_2, .string ByteArray.empty, vI 0, .string ByteArray.empty, vI x72.Bits, vI x72.Low, .string ByteArray.empty, .slice none 0 0]) ⟨by kernel_rfl⟩ (fun w_ hM => ⟨hM.cell 2 rfl rfl, hM.cell 2 rfl rfl, hM.cell 2 rfl rfl, hM.cell 2 rfl rfl, hM.cell 2 rfl rfl, hM.cell 2 rfl rfl, hM.cell 2 rfl rfl, hM.cell 2 rfl rfl, hM.cell 2 rfl rfl, hM.cell 2 rfl rfl, rfl⟩) ?_
        refine ops_load (d := some 95) (an := [.v (.string x72.Name), .v (vI m_6), .v (vI m_7)]) (evs := [ld b84 0 (.string x72.Name), ld b84 1 (vI m_6), ld b84 2 (vI m_7)]) (v := .agg #[.string x72.Name, vI m_6, vI m_7]) ⟨by kernel_rfl⟩ (fun w_ hM => ⟨hM.cell 0 rfl rfl, hM.cell 0 rfl rfl, hM.cell 0 rfl rfl, rfl⟩) ?_
        refine oQ [oT 2] [(96, vP b83 2), (95, .agg #[.string x72.Name, vI m_6, vI m_7]), (94, .agg #[vI x38, .string m_1, .string m_2, .string ByteArray.empty, vI 0, .string ByteArray.empty, vI x72.Bits, vI x72.Low, .string ByteArray.empty, .slice none 0 0]), (10, vP b84 0), (9, vP b83 0), (4, vP b2 0)] (by kernel_rfl) ?_
        refine ops_load (d := some 97) (an := [.v (vI x72.Low)]) (evs := [ld b83 2 (vI x72.Low)]) (v := vI x72.Low) ⟨by kernel_rfl⟩ (fun w_ hM => ⟨hM.cell 1 rfl rfl, rfl⟩) ?_
        refine oQ [oT 5] [(99, vP b83 2), (97, vI x72.Low), (95, .agg #[.string x72.Name, vI m_6, vI m_7]), (94, .agg #[vI x38, .string m_1, .string m_2, .string ByteArray.empty, vI 0, .string ByteArray.empty, vI x72.Bits, vI x72.Low, .string ByteArray.empty, .slice none 0 0]), (10, vP b84 0), (9, vP b83 0), (4, vP b2 0)] (by kernel_rfl) ?_
        refine ops_load (d := some 100) (an := [.v (vI x72.Low)]) (evs := [ld b83 2 (vI x72.Low)]) (v := vI x72.Low) ⟨by kernel_rfl⟩ (fun w_ hM => ⟨hM.cell 1 rfl rfl, rfl⟩) ?_
        obtain ⟨x90, hv91, hp⟩ := obind hp
        refine ops_callI (σ := Unit) (d := some 98) (f := 48) (args := #[.agg #[.string x72.Name, vI m_6, vI m_7], vI x72.Low]) (v := (fun _ => vI x90)) (I := (fun _ => True)) (M' := (fun _ => Mem w0 (.blk b84 [.string x72.Name, vI m_6, vI m_7] 32 :: .blk b83 [.string x72.Name, vI x72.Bits, vI x72.Low] 32 :: .blk b43 [vI x38, .string m_1, .string m_2, .string ByteArray.empty, vI 0, .string ByteArray.empty, vI x72.Bits, vI x72.Low, .string ByteArray.empty, .slice none 0 0] 37 :: .obj g6 (.map es34 ck35) :: .blk b2 [vI 0, .string ByteArray.empty, .string ByteArray.empty, .string ByteArray.empty, vI 0, .string ByteArray.empty, vI 0, vI 0, .string ByteArray.empty, .slice none 0 0] 37 :: .blk b1 [vI m_0, .string m_1, .string m_2, .string m_3, vI m_4, .string m_5, vI m_6, vI m_7, .string m_8, sl A_m_9 m_9 c_m_9] 37 :: Fz F W :: cs))) ⟨by kernel_rfl⟩ (fun w_ hM hS => (tourref3_Nearest_ok w0 w_ (.blk b84 [.string x72.Name, vI m_6, vI m_7] 32 :: .blk b83 [.string x72.Name, vI x72.Bits, vI x72.Low] 32 :: .blk b43 [vI x38, .string m_1, .string m_2, .string ByteArray.empty, vI 0, .string ByteArray.empty, vI x72.Bits, vI x72.Low, .string ByteArray.empty, .slice none 0 0] 37 :: .obj g6 (.map es34 ck35) :: .blk b2 [vI 0, .string ByteArray.empty, .string ByteArray.empty, .string ByteArray.empty, vI 0, .string ByteArray.empty, vI 0, vI 0, .string ByteArray.empty, .slice none 0 0] 37 :: .blk b1 [vI m_0, .string m_1, .string m_2, .string m_3, vI m_4, .string m_5, vI m_6, vI m_7, .string m_8, sl A_m_9 m_9 c_m_9] 37 :: cs) F W x72.Name m_6 m_7 x72.Low (hM.pick 7 [6, 0, 1, 2, 3, 4, 5] (by kernel_rfl) (by decide) rfl)  x90 hv91).mono (by rintro e w' ⟨-, rfl, h'⟩; have h' : Mem w0 (.blk b84 [.string x72.Name, vI m_6, vI m_7] 32 :: .blk b83 [.string x72.Name, vI x72.Bits, vI x72.Low] 32 :: .blk b43 [vI x38, .string m_1, .string m_2, .string ByteArray.empty, vI 0, .string ByteArray.empty, vI x72.Bits, vI x72.Low, .string ByteArray.empty, .slice none 0 0] 37 :: .obj g6 (.map es34 ck35) :: .blk b2 [vI 0, .string ByteArray.empty, .string ByteArray.empty, .string ByteArray.empty, vI 0, .string ByteArray.empty, vI 0, vI 0, .string ByteArray.empty, .slice none 0 0] 37 :: .blk b1 [vI m_0, .string m_1, .string m_2, .string m_3, vI m_4, .string m_5, vI m_6, vI m_7, .string m_8, sl A_m_9 m_9 c_m_9] 37 :: Fz F W :: cs) w' := (h'.pick 7 [1, 2, 3, 4, 5, 6, 0] (by kernel_rfl) (by decide) rfl); exact ⟨(), trivial, rfl, h', (by exact h'.sub (.cons_cons _ (.cons_cons _ (.cons_cons _ (.cons_cons _ (.cons _ (.cons_cons _ (.cons_cons _ (.refl _)))))))))⟩)) ?_
        rintro _ -
        refine oQ [oT 7, oT 8] [(102, .bool (x90 == x72.Low)), (94, .agg #[vI x38, .string m_1, .string m_2, .string ByteArray.empty, vI 0, .string ByteArray.empty, vI x72.Bits, vI x72.Low, .string ByteArray.empty, .slice none 0 0]), (10, vP b84 0), (9, vP b83 0), (4, vP b2 0)] (by kernel_rfl) ?_
        refine ops_bool (t := (x90 == x72.Low)) (l1 := [(102, .bool true), (94, .agg #[vI x38, .string m_1, .string m_2, .string ByteArray.empty, vI 0, .string ByteArray.empty, vI x72.Bits, vI x72.Low, .string ByteArray.empty, .slice none 0 0]), (10, vP b84 0), (9, vP b83 0), (4, vP b2 0)]) (l2 := [(102, .bool false), (94, .agg #[vI x38, .string m_1, .string m_2, .string ByteArray.empty, vI 0, .string ByteArray.empty, vI x72.Bits, vI x72.Low, .string ByteArray.empty, .slice none 0 0]), (10, vP b84 0), (9, vP b83 0), (4, vP b2 0)]) (fun h => by rw [h]) (fun h => by rw [h]) (fun hc92 => ?_) (fun hc92 => ?_)
        ·
         have hp := cnd_t hc92 hp
         refine ops_load (d := some 103) (an := [.v (.string x72.Name), .v (vI m_6), .v (vI m_7)]) (evs := [ld b84 0 (.string x72.Name), ld b84 1 (vI m_6), ld b84 2 (vI m_7)]) (v := .agg #[.string x72.Name, vI m_6, vI m_7]) ⟨by kernel_rfl⟩ (fun w_ hM => ⟨hM.cell 0 rfl rfl, hM.cell 0 rfl rfl, hM.cell 0 rfl rfl, rfl⟩) ?_
         refine ops_load (d := some 104) (an := [.v (.string x72.Name), .v (vI x72.Bits), .v (vI x72.Low)]) (evs := [ld b83 0 (.string x72.Name), ld b83 1 (vI x72.Bits), ld b83 2 (vI x72.Low)]) (v := .agg #[.string x72.Name, vI x72.Bits, vI x72.Low]) ⟨by kernel_rfl⟩ (fun w_ hM => ⟨hM.cell 1 rfl rfl, hM.cell 1 rfl rfl, hM.cell 1 rfl rfl, rfl⟩) ?_
         refine ops_load (d := some 107) (an := [.v (.string x72.Name), .v (vI x72.Bits), .v (vI x72.Low)]) (evs := [ld b83 0 (.string x72.Name), ld b83 1 (vI x72.Bits), ld b83 2 (vI x72.Low)]) (v := .agg #[.string x72.Name, vI x72.Bits, vI x72.Low]) ⟨by kernel_rfl⟩ (fun w_ hM => ⟨hM.cell 1 rfl rfl, hM.cell 1 rfl rfl, hM.cell 1 rfl rfl, rfl⟩) ?_
         obtain ⟨x93, hv94, hp⟩ := obind hp
         refine ops_callI (σ := Unit) (d := some 105) (f := 49) (args := #[.agg #[.string x72.Name, vI x72.Bits, vI x72.Low]]) (v := (fun _ => vI x93)) (I := (fun _ => True)) (M' := (fun _ => Mem w0 (.blk b84 [.string x72.Name, vI m_6, vI m_7] 32 :: .blk b83 [.string x72.Name, vI x72.Bits, vI x72.Low] 32 :: .blk b43 [vI x38, .string m_1, .string m_2, .string ByteArray.empty, vI 0, .string ByteArray.empty, vI x72.Bits, vI x72.Low, .string ByteArray.empty, .slice none 0 0] 37 :: .obj g6 (.map es34 ck35) :: .blk b2 [vI 0, .string ByteArray.empty, .string ByteArray.empty, .string ByteArray.empty, vI 0, .string ByteArray.empty, vI 0, vI 0, .string ByteArray.empty, .slice none 0 0] 37 :: .blk b1 [vI m_0, .string m_1, .string m_2, .string m_3, vI m_4, .string m_5, vI m_6, vI m_7, .string m_8, sl A_m_9 m_9 c_m_9] 37 :: Fz F W :: cs))) ⟨by kernel_rfl⟩ (fun w_ hM hS => (tourref3_Top_ok w0 w_ (.blk b84 [.string x72.Name, vI m_6, vI m_7] 32 :: .blk b83 [.string x72.Name, vI x72.Bits, vI x72.Low] 32 :: .blk b43 [vI x38, .string m_1, .string m_2, .string ByteArray.empty, vI 0, .string ByteArray.empty, vI x72.Bits, vI x72.Low, .string ByteArray.empty, .slice none 0 0] 37 :: .obj g6 (.map es34 ck35) :: .blk b2 [vI 0, .string ByteArray.empty, .string ByteArray.empty, .string ByteArray.empty, vI 0, .string ByteArray.empty, vI 0, vI 0, .string ByteArray.empty, .slice none 0 0] 37 :: .blk b1 [vI m_0, .string m_1, .string m_2, .string m_3, vI m_4, .string m_5, vI m_6, vI m_7, .string m_8, sl A_m_9 m_9 c_m_9] 37 :: cs) F W x72.Name x72.Bits x72.Low (hM.pick 7 [6, 0, 1, 2, 3, 4, 5] (by kernel_rfl) (by decide) rfl)  x93 hv94).mono (by rintro e w' ⟨-, rfl, h'⟩; have h' : Mem w0 (.blk b84 [.string x72.Name, vI m_6, vI m_7] 32 :: .blk b83 [.string x72.Name, vI x72.Bits, vI x72.Low] 32 :: .blk b43 [vI x38, .string m_1, .string m_2, .string ByteArray.empty, vI 0, .string ByteArray.empty, vI x72.Bits, vI x72.Low, .string ByteArray.empty, .slice none 0 0] 37 :: .obj g6 (.map es34 ck35) :: .blk b2 [vI 0, .string ByteArray.empty, .string ByteArray.empty, .string ByteArray.empty, vI 0, .string ByteArray.empty, vI 0, vI 0, .string ByteArray.empty, .slice none 0 0] 37 :: .blk b1 [vI m_0, .string m_1, .string m_2, .string m_3, vI m_4, .string m_5, vI m_6, vI m_7, .string m_8, sl A_m_9 m_9 c_m_9] 37 :: Fz F W :: cs) w' := (h'.pick 7 [1, 2, 3, 4, 5, 6, 0] (by kernel_rfl) (by decide) rfl); exact ⟨(), trivial, rfl, h', (by exact h'.sub (.cons_cons _ (.cons_cons _ (.cons_cons _ (.cons_cons _ (.cons _ (.cons_cons _ (.cons_cons _ (.refl _)))))))))⟩)) ?_
         rintro _ -
         obtain ⟨x95, hv96, hp⟩ := obind hp
         refine ops_callI (σ := Unit) (d := some 106) (f := 48) (args := #[.agg #[.string x72.Name, vI m_6, vI m_7], vI x93]) (v := (fun _ => vI x95)) (I := (fun _ => True)) (M' := (fun _ => Mem w0 (.blk b84 [.string x72.Name, vI m_6, vI m_7] 32 :: .blk b83 [.string x72.Name, vI x72.Bits, vI x72.Low] 32 :: .blk b43 [vI x38, .string m_1, .string m_2, .string ByteArray.empty, vI 0, .string ByteArray.empty, vI x72.Bits, vI x72.Low, .string ByteArray.empty, .slice none 0 0] 37 :: .obj g6 (.map es34 ck35) :: .blk b2 [vI 0, .string ByteArray.empty, .string ByteArray.empty, .string ByteArray.empty, vI 0, .string ByteArray.empty, vI 0, vI 0, .string ByteArray.empty, .slice none 0 0] 37 :: .blk b1 [vI m_0, .string m_1, .string m_2, .string m_3, vI m_4, .string m_5, vI m_6, vI m_7, .string m_8, sl A_m_9 m_9 c_m_9] 37 :: Fz F W :: cs))) ⟨by kernel_rfl⟩ (fun w_ hM hS => (tourref3_Nearest_ok w0 w_ (.blk b84 [.string x72.Name, vI m_6, vI m_7] 32 :: .blk b83 [.string x72.Name, vI x72.Bits, vI x72.Low] 32 :: .blk b43 [vI x38, .string m_1, .string m_2, .string ByteArray.empty, vI 0, .string ByteArray.empty, vI x72.Bits, vI x72.Low, .string ByteArray.empty, .slice none 0 0] 37 :: .obj g6 (.map es34 ck35) :: .blk b2 [vI 0, .string ByteArray.empty, .string ByteArray.empty, .string ByteArray.empty, vI 0, .string ByteArray.empty, vI 0, vI 0, .string ByteArray.empty, .slice none 0 0] 37 :: .blk b1 [vI m_0, .string m_1, .string m_2, .string m_3, vI m_4, .string m_5, vI m_6, vI m_7, .string m_8, sl A_m_9 m_9 c_m_9] 37 :: cs) F W x72.Name m_6 m_7 x93 (hM.pick 7 [6, 0, 1, 2, 3, 4, 5] (by kernel_rfl) (by decide) rfl)  x95 hv96).mono (by rintro e w' ⟨-, rfl, h'⟩; have h' : Mem w0 (.blk b84 [.string x72.Name, vI m_6, vI m_7] 32 :: .blk b83 [.string x72.Name, vI x72.Bits, vI x72.Low] 32 :: .blk b43 [vI x38, .string m_1, .string m_2, .string ByteArray.empty, vI 0, .string ByteArray.empty, vI x72.Bits, vI x72.Low, .string ByteArray.empty, .slice none 0 0] 37 :: .obj g6 (.map es34 ck35) :: .blk b2 [vI 0, .string ByteArray.empty, .string ByteArray.empty, .string ByteArray.empty, vI 0, .string ByteArray.empty, vI 0, vI 0, .string ByteArray.empty, .slice none 0 0] 37 :: .blk b1 [vI m_0, .string m_1, .string m_2, .string m_3, vI m_4, .string m_5, vI m_6, vI m_7, .string m_8, sl A_m_9 m_9 c_m_9] 37 :: Fz F W :: cs) w' := (h'.pick 7 [1, 2, 3, 4, 5, 6, 0] (by kernel_rfl) (by decide) rfl); exact ⟨(), trivial, rfl, h', (by exact h'.sub (.cons_cons _ (.cons_cons _ (.cons_cons _ (.cons_cons _ (.cons _ (.cons_cons _ (.cons_cons _ (.refl _)))))))))⟩)) ?_
         rintro _ -
         obtain ⟨x97, hv98, hp⟩ := obind hp
         refine ops_callI (σ := Unit) (d := some 108) (f := 49) (args := #[.agg #[.string x72.Name, vI x72.Bits, vI x72.Low]]) (v := (fun _ => vI x97)) (I := (fun _ => True)) (M' := (fun _ => Mem w0 (.blk b84 [.string x72.Name, vI m_6, vI m_7] 32 :: .blk b83 [.string x72.Name, vI x72.Bits, vI x72.Low] 32 :: .blk b43 [vI x38, .string m_1, .string m_2, .string ByteArray.empty, vI 0, .string ByteArray.empty, vI x72.Bits, vI x72.Low, .string ByteArray.empty, .slice none 0 0] 37 :: .obj g6 (.map es34 ck35) :: .blk b2 [vI 0, .string ByteArray.empty, .string ByteArray.empty, .string ByteArray.empty, vI 0, .string ByteArray.empty, vI 0, vI 0, .string ByteArray.empty, .slice none 0 0] 37 :: .blk b1 [vI m_0, .string m_1, .string m_2, .string m_3, vI m_4, .string m_5, vI m_6, vI m_7, .string m_8, sl A_m_9 m_9 c_m_9] 37 :: Fz F W :: cs))) ⟨by kernel_rfl⟩ (fun w_ hM hS => (tourref3_Top_ok w0 w_ (.blk b84 [.string x72.Name, vI m_6, vI m_7] 32 :: .blk b83 [.string x72.Name, vI x72.Bits, vI x72.Low] 32 :: .blk b43 [vI x38, .string m_1, .string m_2, .string ByteArray.empty, vI 0, .string ByteArray.empty, vI x72.Bits, vI x72.Low, .string ByteArray.empty, .slice none 0 0] 37 :: .obj g6 (.map es34 ck35) :: .blk b2 [vI 0, .string ByteArray.empty, .string ByteArray.empty, .string ByteArray.empty, vI 0, .string ByteArray.empty, vI 0, vI 0, .string ByteArray.empty, .slice none 0 0] 37 :: .blk b1 [vI m_0, .string m_1, .string m_2, .string m_3, vI m_4, .string m_5, vI m_6, vI m_7, .string m_8, sl A_m_9 m_9 c_m_9] 37 :: cs) F W x72.Name x72.Bits x72.Low (hM.pick 7 [6, 0, 1, 2, 3, 4, 5] (by kernel_rfl) (by decide) rfl)  x97 hv98).mono (by rintro e w' ⟨-, rfl, h'⟩; have h' : Mem w0 (.blk b84 [.string x72.Name, vI m_6, vI m_7] 32 :: .blk b83 [.string x72.Name, vI x72.Bits, vI x72.Low] 32 :: .blk b43 [vI x38, .string m_1, .string m_2, .string ByteArray.empty, vI 0, .string ByteArray.empty, vI x72.Bits, vI x72.Low, .string ByteArray.empty, .slice none 0 0] 37 :: .obj g6 (.map es34 ck35) :: .blk b2 [vI 0, .string ByteArray.empty, .string ByteArray.empty, .string ByteArray.empty, vI 0, .string ByteArray.empty, vI 0, vI 0, .string ByteArray.empty, .slice none 0 0] 37 :: .blk b1 [vI m_0, .string m_1, .string m_2, .string m_3, vI m_4, .string m_5, vI m_6, vI m_7, .string m_8, sl A_m_9 m_9 c_m_9] 37 :: Fz F W :: cs) w' := (h'.pick 7 [1, 2, 3, 4, 5, 6, 0] (by kernel_rfl) (by decide) rfl); exact ⟨(), trivial, rfl, h', (by exact h'.sub (.cons_cons _ (.cons_cons _ (.cons_cons _ (.cons_cons _ (.cons _ (.cons_cons _ (.cons_cons _ (.refl _)))))))))⟩)) ?_
         rintro _ -
         refine oQ [oT 15, oT 16] [(110, .bool (x95 == x97)), (94, .agg #[vI x38, .string m_1, .string m_2, .string ByteArray.empty, vI 0, .string ByteArray.empty, vI x72.Bits, vI x72.Low, .string ByteArray.empty, .slice none 0 0]), (4, vP b2 0)] (by kernel_rfl) ?_
         refine ops_store (an := []) (evs := [sr b2 0 (vI x38), sr b2 1 (.string m_1), sr b2 2 (.string m_2), sr b2 3 (.string ByteArray.empty), sr b2 4 (vI 0), sr b2 5 (.string ByteArray.empty), sr b2 6 (vI x72.Bits), sr b2 7 (vI x72.Low), sr b2 8 (.string ByteArray.empty), sr b2 9 (.slice none 0 0)]) ⟨by kernel_rfl⟩ (fun w_ hM hS => let ⟨w', he, h'⟩ := hM.evs_stores [vI x38, .string m_1, .string m_2, .string ByteArray.empty, vI 0, .string ByteArray.empty, vI x72.Bits, vI x72.Low, .string ByteArray.empty, .slice none 0 0] 4 rfl 0 (Nat.le_of_ble_eq_true rfl); ⟨w', he, h', (by exact h'.sub (.cons_cons _ (.cons_cons _ (.cons_cons _ (.cons_cons _ (.cons _ (.cons_cons _ (.cons_cons _ (.refl _)))))))))⟩) ?_
         refine oQ [oT 18] [(5, .bool (x95 == x97)), (4, vP b2 0)] (by kernel_rfl) ?_
         refine ops_nil ?_
         refine fin_conv (l' := [(5, .bool (x95 == x97)), (4, vP b2 0)]) (M' := Mem w0 (ow none ([] : List api_Field) 0 32 3 [] :: .blk b84 [.string x72.Name, vI m_6, vI m_7] 32 :: .blk b83 [.string x72.Name, vI x72.Bits, vI x72.Low] 32 :: .blk b43 [vI x38, .string m_1, .string m_2, .string ByteArray.empty, vI 0, .string ByteArray.empty, vI x72.Bits, vI x72.Low, .string ByteArray.empty, .slice none 0 0] 37 :: .obj g6 (.map es34 ck35) :: .blk b2 [vI x38, .string m_1, .string m_2, .string ByteArray.empty, vI 0, .string ByteArray.empty, vI x72.Bits, vI x72.Low, .string ByteArray.empty, .slice none 0 0] 37 :: .blk b1 [vI m_0, .string m_1, .string m_2, .string m_3, vI m_4, .string m_5, vI m_6, vI m_7, .string m_8, sl A_m_9 m_9 c_m_9] 37 :: Fz F W :: cs)) rfl (fun w_ h => h.onil none 32 3) ?_
         refine fin_conv (l' := [(5, .bool (x95 == x97)), (4, vP b2 0)]) (M' := Mem w0 (ow none ([] : List api_Field) 0 32 3 [] :: .blk b84 [.string x72.Name, vI m_6, vI m_7] 32 :: .blk b83 [.string x72.Name, vI x72.Bits, vI x72.Low] 32 :: .blk b43 [vI x38, .string m_1, .string m_2, .string ByteArray.empty, vI 0, .string ByteArray.empty, vI x72.Bits, vI x72.Low, .string ByteArray.empty, .slice none 0 0] 37 :: .obj g6 (.map es34 ck35) :: .blk b2 [vI x38, .string m_1, .string m_2, .string ByteArray.empty, vI 0, .string ByteArray.empty, vI x72.Bits, vI x72.Low, .string ByteArray.empty, sl none ([] : List api_Field) 0] 37 :: .blk b1 [vI m_0, .string m_1, .string m_2, .string m_3, vI m_4, .string m_5, vI m_6, vI m_7, .string m_8, sl A_m_9 m_9 c_m_9] 37 :: Fz F W :: cs)) rfl (fun _ h => h) ?_
         exact fin_join HJ2 (none, 0, [], (x95 == x97)) ⟨hp, (RepL.nil (R := R_api_Field))⟩ (look_has ⟨rfl, rfl, trivial⟩) (fun w_ hM => hM.pick 8 [5, 0, 7] (by kernel_rfl) (by decide) rfl)
        ·
         have hp := cnd_f hc92 hp
         refine oQ [oT 9, oT 10, oT 13, oF 11, oF 12, oF 14, oT 15, oT 16] [(110, .bool false), (94, .agg #[vI x38, .string m_1, .string m_2, .string ByteArray.empty, vI 0, .string ByteArray.empty, vI x72.Bits, vI x72.Low, .string ByteArray.empty, .slice none 0 0]), (4, vP b2 0)] (by kernel_rfl) ?_
         refine ops_store (an := []) (evs := [sr b2 0 (vI x38), sr b2 1 (.string m_1), sr b2 2 (.string m_2), sr b2 3 (.string ByteArray.empty), sr b2 4 (vI 0), sr b2 5 (.string ByteArray.empty), sr b2 6 (vI x72.Bits), sr b2 7 (vI x72.Low), sr b2 8 (.string ByteArray.empty), sr b2 9 (.slice none 0 0)]) ⟨by kernel_rfl⟩ (fun w_ hM hS => let ⟨w', he, h'⟩ := hM.evs_stores [vI x38, .string m_1, .string m_2, .string ByteArray.empty, vI 0, .string ByteArray.empty, vI x72.Bits, vI x72.Low, .string ByteArray.empty, .slice none 0 0] 4 rfl 0 (Nat.le_of_ble_eq_true rfl); ⟨w', he, h', (by exact h'.sub (.cons_cons _ (.cons_cons _ (.cons_cons _ (.cons_cons _ (.cons _ (.cons_cons _ (.cons_cons _ (.refl _)))))))))⟩) ?_
         refine oQ [oT 18] [(5, .bool false), (4, vP b2 0)] (by kernel_rfl) ?_
         refine ops_nil ?_
         refine fin_conv (l' := [(5, .bool false), (4, vP b2 0)]) (M' := Mem w0 (ow none ([] : List api_Field) 0 32 3 [] :: .blk b84 [.string x72.Name, vI m_6, vI m_7] 32 :: .blk b83 [.string x72.Name, vI x72.Bits, vI x72.Low] 32 :: .blk b43 [vI x38, .string m_1, .string m_2, .string ByteArray.empty, vI 0, .string ByteArray.empty, vI x72.Bits, vI x72.Low, .string ByteArray.empty, .slice none 0 0] 37 :: .obj g6 (.map es34 ck35) :: .blk b2 [vI x38, .string m_1, .string m_2, .string ByteArray.empty, vI 0, .string ByteArray.empty, vI x72.Bits, vI x72.Low, .string ByteArray.empty, .slice none 0 0] 37 :: .blk b1 [vI m_0, .string m_1, .string m_2, .string m_3, vI m_4, .string m_5, vI m_6, vI m_7, .string m_8, sl A_m_9 m_9 c_m_9] 37 :: Fz F W :: cs)) rfl (fun w_ h => h.onil none 32 3) ?_
         refine fin_conv (l' := [(5, .bool false), (4, vP b2 0)]) (M' := Mem w0 (ow none ([] : List api_Field) 0 32 3 [] :: .blk b84 [.string x72.Name, vI m_6, vI m_7] 32 :: .blk b83 [.string x72.Name, vI x72.Bits, vI x72.Low] 32 :: .blk b43 [vI x38, .string m_1, .string m_2, .string ByteArray.empty, vI 0, .string ByteArray.empty, vI x72.Bits, vI x72.Low, .string ByteArray.empty, .slice none 0 0] 37 :: .obj g6 (.map es34 ck35) :: .blk b2 [vI x38, .string m_1, .string m_2, .string ByteArray.empty, vI 0, .string ByteArray.empty, vI x72.Bits, vI x72.Low, .string ByteArray.empty, sl none ([] : List api_Field) 0] 37 :: .blk b1 [vI m_0, .string m_1, .string m_2, .string m_3, vI m_4, .string m_5, vI m_6, vI m_7, .string m_8, sl A_m_9 m_9 c_m_9] 37 :: Fz F W :: cs)) rfl (fun _ h => h) ?_
         exact fin_join HJ2 (none, 0, [], false) ⟨hp, (RepL.nil (R := R_api_Field))⟩ (look_has ⟨rfl, rfl, trivial⟩) (fun w_ hM => hM.pick 8 [5, 0, 7] (by kernel_rfl) (by decide) rfl)
      ·
       have hp := cnd_f hc57 hp
       refine st_seq (st_region [oF 0, oF 1, oF 2] (by rfl) ?_)
       refine oQ [oF 0] [(28, .agg #[vI 0, .string ByteArray.empty, .string ByteArray.empty, .string ByteArray.empty, vI 0, .string ByteArray.empty, vI 0, vI 0, .string ByteArray.empty, .slice none 0 0]), (4, vP b2 0)] (by kernel_rfl) ?_
       refine ops_store (an := []) (evs := [sr b2 0 (vI 0), sr b2 1 (.string ByteArray.empty), sr b2 2 (.string ByteArray.empty), sr b2 3 (.string ByteArray.empty), sr b2 4 (vI 0), sr b2 5 (.string ByteArray.empty), sr b2 6 (vI 0), sr b2 7 (vI 0), sr b2 8 (.string ByteArray.empty), sr b2 9 (.slice none 0 0)]) ⟨by kernel_rfl⟩ (fun w_ hM hS => let ⟨w', he, h'⟩ := hM.evs_stores [vI 0, .string ByteArray.empty, .string ByteArray.empty, .string ByteArray.empty, vI 0, .string ByteArray.empty, vI 0, vI 0, .string ByteArray.empty, .slice none 0 0] 2 rfl 0 (Nat.le_of_ble_eq_true rfl); ⟨w', he, h', trivial⟩) ?_
       refine oQ [oF 2] [(5, .bool false), (4, vP b2 0)] (by kernel_rfl) ?_
       refine ops_nil (fin_then (st_ret (fin_ret_block (fin_ret_then ?_))))
       refine fin_conv (l' := [(5, .bool false), (4, vP b2 0)]) (M' := Mem w0 (ow none ([] : List api_Field) 0 32 3 [] :: .blk b43 [vI x38, .string ByteArray.empty, .string ByteArray.empty, .string ByteArray.empty, vI 0, .string ByteArray.empty, vI 0, vI 0, .string ByteArray.empty, .slice none 0 0] 37 :: .obj g6 (.map es34 ck35) :: .blk b2 [vI 0, .string ByteArray.empty, .string ByteArray.empty, .string ByteArray.empty, vI 0, .string ByteArray.empty, vI 0, vI 0, .string ByteArray.empty, .slice none 0 0] 37 :: .blk b1 [vI m_0, .string m_1, .string m_2, .string m_3, vI m_4, .string m_5, vI m_6, vI m_7, .string m_8, sl A_m_9 m_9 c_m_9] 37 :: Fz F W :: cs)) rfl (fun w_ h => h.onil none 32 3) ?_
       refine fin_conv (l' := [(5, .bool false), (4, vP b2 0)]) (M' := Mem w0 (ow none ([] : List api_Field) 0 32 3 [] :: .blk b43 [vI x38, .string ByteArray.empty, .string ByteArray.empty, .string ByteArray.empty, vI 0, .string ByteArray.empty, vI 0, vI 0, .string ByteArray.empty, .slice none 0 0] 37 :: .obj g6 (.map es34 ck35) :: .blk b2 [vI 0, .string ByteArray.empty, .string ByteArray.empty, .string ByteArray.empty, vI 0, .string ByteArray.empty, vI 0, vI 0, .string ByteArray.empty, .slice none 0 0] 37 :: .blk b1 [vI m_0, .string m_1, .string m_2, .string m_3, vI m_4, .string m_5, vI m_6, vI m_7, .string m_8, sl A_m_9 m_9 c_m_9] 37 :: Fz F W :: cs)) rfl (fun _ h => h) ?_
       have hq_ := Option.some.inj hp
       obtain ⟨hr0_, hq_⟩ := Prod.mk.inj hq_
       obtain ⟨hr1_, hq_⟩ := Prod.mk.inj hq_
       obtain ⟨hr2_, hq_⟩ := Prod.mk.inj hq_
       obtain ⟨hr3_, hq_⟩ := Prod.mk.inj hq_
       obtain ⟨hr4_, hq_⟩ := Prod.mk.inj hq_
       obtain ⟨hr5_, hq_⟩ := Prod.mk.inj hq_
       obtain ⟨hr6_, hq_⟩ := Prod.mk.inj hq_
       have hr7_ := hq_
       subst hr0_
       subst hr1_
       subst hr2_
       subst hr3_
       subst hr4_
       subst hr5_
       subst hr6_
       subst hr7_
       refine fin_ret [.cell 4 37, .tmp 5] [.agg #[vI 0, .string ByteArray.empty, .string ByteArray.empty, .string ByteArray.empty, vI 0, .string ByteArray.empty, vI 0, vI 0, .string ByteArray.empty, sl none ([] : List api_Field) 0], .bool false] rfl rfl (fun w_ hM => (.cell rfl (tr_run _ [.v (vI 0), .v (.string ByteArray.empty), .v (.string ByteArray.empty), .v (.string ByteArray.empty), .v (vI 0), .v (.string ByteArray.empty), .v (vI 0), .v (vI 0), .v (.string ByteArray.empty), .v (.slice none 0 0)] [ld b2 0 (vI 0), ld b2 1 (.string ByteArray.empty), ld b2 2 (.string ByteArray.empty), ld b2 3 (.string ByteArray.empty), ld b2 4 (vI 0), ld b2 5 (.string ByteArray.empty), ld b2 6 (vI 0), ld b2 7 (vI 0), ld b2 8 (.string ByteArray.empty), ld b2 9 (.slice none 0 0)] (.agg #[vI 0, .string ByteArray.empty, .string ByteArray.empty, .string ByteArray.empty, vI 0, .string ByteArray.empty, vI 0, vI 0, .string ByteArray.empty, .slice none 0 0] : Value) _ _ (by kernel_rfl) ⟨hM.cell 3 rfl rfl, hM.cell 3 rfl rfl, hM.cell 3 rfl rfl, hM.cell 3 rfl rfl, hM.cell 3 rfl rfl, hM.cell 3 rfl rfl, hM.cell 3 rfl rfl, hM.cell 3 rfl rfl, hM.cell 3 rfl rfl, hM.cell 3 rfl rfl, rfl⟩) (.tmp rfl .nil))) (fun w_ hM => ?_)
       exact ⟨none, 0, [], (RepL.nil (R := R_api_Field)), rfl, hM.pick 6 [0, 5] (by kernel_rfl) (by decide) rfl⟩
theorem slices_Equal_api_Field_api_Field_ok (w0 w : World) (cs : List Chunk) (F : Nat → Prop) (W : World) (A_s1 : Option Addr) (c_s1 : Nat) (s1_1 : List api_Field) (A_s2 : Option Addr) (c_s2 : Nat) (s2_1 : List api_Field) (hM0 : Mem w0 (Fz F W :: cs) w) (h_s1 : RdS R_api_Field F W A_s1 c_s1 s1_1) (h_s2 : RdS R_api_Field F W A_s2 c_s2 s2_1) (t9001 : Bool) (hp : slices_Equal_api_Field_api_Field s1_1 s2_1 = some t9001) : Calls Tryd.prog 52 #[sl A_s1 s1_1 c_s1, sl A_s2 s2_1 c_s2] w fun e w' => (True) ∧ e = .returned (.bool t9001) ∧ Mem w0 (Fz F W :: cs) w' := by
 unfold slices_Equal_api_Field_api_Field at hp
 refine sx_calls Tryd.func52 rfl (n := 26) (by kernel_rfl) (l := [(0, sl A_s1 s1_1 c_s1), (1, sl A_s2 s2_1 c_s2)]) rfl (by rfl) hM0 ?_
 refine st_seq (st_region [oF 0] (by rfl) ?_)
 refine oQ [oF 0] [(0, sl A_s1 s1_1 c_s1), (1, sl A_s2 s2_1 c_s2)] (by kernel_rfl) ?_
 refine ops_nil (fin_then (st_seq (st_seq (st_region [oF 0, oF 1, oF 2, oF 3, oF 4] (by rfl) ?_))))
 refine oQ [oF 0, oF 1, oF 2, oF 3, oF 4] [(10, .bool (!((s1_1.length : Int) == (s2_1.length : Int)))), (0, sl A_s1 s1_1 c_s1), (1, sl A_s2 s2_1 c_s2)] (by kernel_rfl) ?_
 refine ops_nil (fin_then ?_)
 refine st_if (b := !((s1_1.length : Int) == (s2_1.length : Int))) rfl (fun hc1 => ?_) (fun hc1 => ?_)
 ·
  have hp := cnd_t hc1 hp
  refine st_seq (st_region [oF 0] (by rfl) ?_)
  refine oQ [oF 0] [(4, .bool false)] (by kernel_rfl) ?_
  refine ops_nil (fin_then (st_ret (fin_ret_then ?_)))
  have hq_ := Option.some.inj hp
  have hr0_ := hq_
  subst hr0_
  refine fin_ret [.tmp 4] [.bool false] rfl rfl (fun w_ hM => (.tmp rfl .nil)) (fun w_ hM => ?_)
  exact ⟨trivial, rfl, hM⟩
 ·
  have hp := cnd_f hc1 hp
  refine st_skip (fin_then ?_)
  refine st_join1 (σ := Unit) (L := fun _ => []) (N := fun _ => Mem w0 (Fz F W :: cs)) (I := fun _ => (slices_Equal_api_Field_api_Field_j1 = some t9001)) ?_ ?_
  ·
   rintro _ hp
   unfold slices_Equal_api_Field_api_Field_j1 at hp
   refine st_seq (st_region [oF 0] (by rfl) ?_)
   refine oQ [oF 0] [(4, .bool true)] (by kernel_rfl) ?_
   refine ops_nil (fin_then (st_ret ?_))
   have hq_ := Option.some.inj hp
   have hr0_ := hq_
   subst hr0_
   refine fin_ret [.tmp 4] [.bool true] rfl rfl (fun w_ hM => (.tmp rfl .nil)) (fun w_ hM => ?_)
   exact ⟨trivial, rfl, hM⟩
  ·
   intro HJ1
   refine st_seq (st_seq (st_region [oF 0, oF 1, oF 2] (by rfl) ?_))
   refine oQ [oF 0, oF 1, oF 2] [(13, vI 0), (12, vI (s1_1.length : Int)), (0, sl A_s1 s1_1 c_s1), (1, sl A_s2 s2_1 c_s2)] (by kernel_rfl) ?_
   refine ops_nil (fin_then (st_block ?_))
   obtain ⟨r2, hl2, hk2⟩ := obind hp
   refine st_loopP (σ := Int) (ρ := (Bool ⊕ Unit)) (γ := Unit) hl2 () (fun s_ g_ => match s_, g_ with | i2, _ => [(0, sl A_s1 s1_1 c_s1), (1, sl A_s2 s2_1 c_s2), (12, vI (s1_1.length : Int)), (13, vI i2)]) (fun s_ g_ => match s_, g_ with | i2, _ => Mem w0 (Fz F W :: cs)) (fun s_ g_ => match s_, g_ with | i2, _ => True) trivial (look_has ⟨rfl, rfl, rfl, rfl, trivial⟩) (fun w_ hM => hM) ?_
   rintro i2 _ o2 - hs_ hd2
   have hp : (slices_Equal_api_Field_api_Field_l2 s1_1 s2_1) i2 = some o2 := hs_
   clear hs_
   unfold slices_Equal_api_Field_api_Field_l2 at hp
   refine st_seq (st_region [oF 0] (by rfl) ?_)
   refine oQ [oF 0] [(14, .bool (decide (i2 < (s1_1.length : Int)))), (0, sl A_s1 s1_1 c_s1), (1, sl A_s2 s2_1 c_s2), (12, vI (s1_1.length : Int)), (13, vI i2)] (by kernel_rfl) ?_
   refine ops_nil (fin_then (st_seq ?_))
   refine st_if (b := decide (i2 < (s1_1.length : Int))) rfl (fun hc3 => ?_) (fun hc3 => ?_)
   ·
    have hp := cnd_t hc3 hp
    refine st_skip (fin_then (st_seq (st_block (st_seq (st_region [oF 0, oF 1] (by rfl) ?_)))))
    refine oQ [oF 0, oF 1] [(5, vI i2), (0, sl A_s1 s1_1 c_s1), (1, sl A_s2 s2_1 c_s2), (12, vI (s1_1.length : Int)), (13, vI i2)] (by kernel_rfl) ?_
    refine ops_nil (fin_then (st_seq ?_))
    refine st_region_draw [oT 0, oT 1, oT 2, oT 3, oT 4, oT 5, oT 6, oT 7, oT 8] (Mem w0 (Fz F W :: cs)) (by kernel_rfl) (by kernel_rfl) (by kernel_rfl) (fun _ d _ _ _ h => by cases d <;> exact h) (M' := Mem w0 (Fz F W :: cs)) (fun w_ hM => ⟨hM.drew, hM.drew.sub (.cons_cons _ (.refl _))⟩) ?_
    refine oQ [oT 0, oT 1] [(17, vI i2), (16, sl A_s1 s1_1 c_s1), (5, vI i2), (0, sl A_s1 s1_1 c_s1), (1, sl A_s2 s2_1 c_s2), (12, vI (s1_1.length : Int)), (13, vI i2)] (by kernel_rfl) ?_
    obtain ⟨x4, hv5, hp⟩ := obind hp
    obtain ⟨m6, hm7, hx8⟩ := idx_some hv5
    have hl11 := (List.getElem?_eq_some_iff.1 hx8).1
    obtain ⟨ad12, vs9, hA13, hr10, hq14⟩ := RdS.el h_s1 hx8
    obtain rfl := dec_api_Field hr10
    refine ops_val (op := (.indexAddr 33 (.tmp 16) (.tmp 17))) (d := some 18) (v := .pointer (some (ad12.add (m6 * 3)))) ⟨by kernel_rfl⟩ (run_indexA hA13 Tryd.underlying33 (z := 3) (by kernel_rfl) rfl rfl hm7 hl11) ?_
    refine ops_load (d := some 19) (an := [.v (.string x4.Name), .v (vI x4.Bits), .v (vI x4.Low)]) (evs := [.load (ad12.add (m6 * 3)) (.string x4.Name), .load ((ad12.add (m6 * 3)).add 1) (vI x4.Bits), .load ((ad12.add (m6 * 3)).add 2) (vI x4.Low)]) (v := .agg #[.string x4.Name, vI x4.Bits, vI x4.Low]) ⟨by kernel_rfl⟩ (fun w_ hM => ⟨hM.elcell 0 rfl hq14 0 rfl, hM.elcell 0 rfl hq14 1 rfl, hM.elcell 0 rfl hq14 2 rfl, rfl⟩) ?_
    refine oQ [oT 4, oT 5] [(21, vI i2), (20, sl A_s2 s2_1 c_s2), (19, .agg #[.string x4.Name, vI x4.Bits, vI x4.Low]), (0, sl A_s1 s1_1 c_s1), (1, sl A_s2 s2_1 c_s2), (12, vI (s1_1.length : Int)), (13, vI i2)] (by kernel_rfl) ?_
    obtain ⟨x15, hv16, hp⟩ := obind hp
    obtain ⟨m17, hm18, hx19⟩ := idx_some hv16
    have hl22 := (List.getElem?_eq_some_iff.1 hx19).1
    obtain ⟨ad23, vs20, hA24, hr21, hq25⟩ := RdS.el h_s2 hx19
    obtain rfl := dec_api_Field hr21
    refine ops_val (op := (.indexAddr 33 (.tmp 20) (.tmp 21))) (d := some 22) (v := .pointer (some (ad23.add (m17 * 3)))) ⟨by kernel_rfl⟩ (run_indexA hA24 Tryd.underlying33 (z := 3) (by kernel_rfl) rfl rfl hm18 hl22) ?_
    refine ops_load (d := some 23) (an := [.v (.string x15.Name), .v (vI x15.Bits), .v (vI x15.Low)]) (evs := [.load (ad23.add (m17 * 3)) (.string x15.Name), .load ((ad23.add (m17 * 3)).add 1) (vI x15.Bits), .load ((ad23.add (m17 * 3)).add 2) (vI x15.Low)]) (v := .agg #[.string x15.Name, vI x15.Bits, vI x15.Low]) ⟨by kernel_rfl⟩ (fun w_ hM => ⟨hM.elcell 0 rfl hq25 0 rfl, hM.elcell 0 rfl hq25 1 rfl, hM.elcell 0 rfl hq25 2 rfl, rfl⟩) ?_
    refine ops_val (op := (.binOp Go.BinOp.neq 32 (.tmp 19) (.tmp 23) 32)) (d := some 24) (v := .bool (!(x4.Name.toList == x15.Name.toList && (x4.Bits == x15.Bits && (x4.Low == x15.Low))))) ⟨by kernel_rfl⟩ (run_neq_agg (r := x4.Name.toList == x15.Name.toList && (x4.Bits == x15.Bits && (x4.Low == x15.Low))) rfl rfl (by kernel_rfl) (fun w => eqA32 9998 w x4.Name x15.Name x4.Bits x15.Bits x4.Low x15.Low)) ?_
    refine ops_nil (fin_then ?_)
    refine st_if (b := !(x4.Name.toList == x15.Name.toList && (x4.Bits == x15.Bits && (x4.Low == x15.Low)))) rfl (fun hc26 => ?_) (fun hc26 => ?_)
    ·
     have hp := cnd_t hc26 hp
     refine st_seq (st_region [oF 0] (by rfl) ?_)
     refine oQ [oF 0] [(4, .bool false)] (by kernel_rfl) ?_
     refine ops_nil (fin_then (st_ret (fin_ret_block (fin_ret_then (fin_ret_then (fin_ret_block (fin_ret_then ?_)))))))
     obtain hq_ := Option.some.inj hp
     subst hq_
     obtain hq_ := hd2 _ rfl
     subst hq_
     have hp : some false = some t9001 := hk2
     have hq_ := Option.some.inj hp
     have hr0_ := hq_
     subst hr0_
     refine fin_ret [.tmp 4] [.bool false] rfl rfl (fun w_ hM => (.tmp rfl .nil)) (fun w_ hM => ?_)
     exact ⟨trivial, rfl, hM⟩
    ·
     have hp := cnd_f hc26 hp
     refine st_skip (fin_block (fin_then (st_region [oF 0, oF 1] (by rfl) ?_)))
     refine oQ [oF 0, oF 1] [(13, vI (IntKind.i64.wrap (i2 + 1))), (0, sl A_s1 s1_1 c_s1), (1, sl A_s2 s2_1 c_s2), (12, vI (s1_1.length : Int))] (by kernel_rfl) ?_
     refine ops_nil ?_
     exact fin_again (IntKind.i64.wrap (i2 + 1)) () (Option.some.inj hp).symm trivial (look_has ⟨rfl, rfl, rfl, rfl, trivial⟩) (fun w_ hM => hM)
   ·
    have hp := cnd_f hc3 hp
    refine st_exit (fin_exit_then (fin_exit_then (fin_exit ?_)))
    obtain hq_ := Option.some.inj hp
    subst hq_
    obtain hq_ := hd2 _ rfl
    subst hq_
    have hp : slices_Equal_api_Field_api_Field_j1 = some t9001 := hk2
    exact fin_join HJ1 () hp (look_has trivial) (fun w_ hM => hM)
end Go.Proofs.YtnnhijlgohlaeaaDoor.A
