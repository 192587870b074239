/- The Go functions come to what the plain functions tell. No condition. -/
import Derived.Test.YtfihfbkjomploaaProg
import Derived.Test.YtfihfbkjomploaaFnX
import Derived.Test.YtfihfbkjomploaaWkX0
import Derived.Test.YtfihfbkjomploaaWkX2
import Derived.Test.YtfihfbkjomploaaWkX3
import Derived.Test.YtfihfbkjomploaaWkX4
import Derived.Test.YtfihfbkjomploaaWkX5
namespace Go.Proofs.Ytfihfbkjomploaa.X
open Go Go.RowKit Go.Proofs.Ytfihfbkjomploaa.Sx
set_option linter.unusedVariables false
def tourlaw1_QuantFields__t0 : List Row := [⟨0, 4835703278458516698824704, 8⟩, ⟨1, 9671406556917033397649408, 4835703278458516698824704⟩, ⟨2, 19342813113834066795298816, 9671406556917033397649408⟩, ⟨6, 38685626227668133590597632, 19342813113834066795298816⟩, ⟨8, 77371252455336267181195264, 38685626227668133590599680⟩, ⟨8, 154742504910672534362390528, 38685626227668133590614016⟩, ⟨56, 309485009821345068724781056, 270799383593676935134183424⟩, ⟨72, 618970019642690137449562112, 348170636049013202315378688⟩, ⟨136, 1237940039285380274899124224, 618970019642690137449562112⟩, ⟨256, 2475880078570760549798248448, 1237940039285380274899125248⟩, ⟨256, 4951760157141521099596496896, 1237940039285380274899132416⟩, ⟨1280, 9903520314283042199192993792, 6189700196426901374495621120⟩, ⟨2816, 19807040628566084398385987584, 13617340432139183023890366464⟩, ⟨4352, 39614081257132168796771975168, 21044980667851464673285111808⟩, ⟨8448, 79228162514264337593543950336, 39614081257132168796771975168⟩, ⟨16384, 158456325028528675187087900672, 79228162514264337593543950848⟩, ⟨49152, 316912650057057350374175801344, 237684487542793012780631851008⟩, ⟨16384, 633825300114114700748351602688, 79228162514264337593543954432⟩, ⟨147456, 1267650600228229401496703205376, 713053462628379038341895553024⟩, ⟨278528, 2535301200456458802993406410752, 1346878762742493739090247155712⟩, ⟨540672, 5070602400912917605986812821504, 2614529362970723140586950361088⟩, ⟨1064960, 10141204801825835211973625643008, 5149830563427181943580356771840⟩, ⟨16384, 20282409603651670423947251286016, 79228162514264337593543954432⟩, ⟨4210688, 40564819207303340847894502572032, 20361637766165934761540795236352⟩, ⟨8404992, 81129638414606681695789005144064, 40644047369817605185488046522368⟩, ⟨16793600, 162259276829213363391578010288128, 81208866577120946033382549094400⟩, ⟨35667968, 324518553658426726783156020576256, 172479709793553462941145179881472⟩, ⟨67190784, 649037107316853453566312041152512, 324914694470998048471123740327936⟩, ⟨134234112, 1298074214633706907132624082305024, 649116335479367717903905585102848⟩]
def tourlaw1_QuantFields__t1 : List Row := [⟨0, 10889035741470030830827987437816582766592, 256⟩, ⟨1, 21778071482940061661655974875633165533184, 10889035741470030830827987437816582766592⟩, ⟨2, 43556142965880123323311949751266331066368, 21778071482940061661655974875633165533184⟩, ⟨4, 87112285931760246646623899502532662132736, 43556142965880123323311949751266331066496⟩, ⟨4, 174224571863520493293247799005065324265472, 43556142965880123323311949751266331066376⟩, ⟨20, 348449143727040986586495598010130648530944, 217780714829400616616559748756331655331840⟩, ⟨44, 696898287454081973172991196020261297061888, 479117572624681356556431447263929641730048⟩, ⟨68, 1393796574908163946345982392040522594123776, 740454430419962096496303145771527628128256⟩, ⟨136, 2787593149816327892691964784081045188247552, 1393796574908163946345982392040522594123776⟩, ⟨256, 5575186299632655785383929568162090376495104, 2787593149816327892691964784081045188247680⟩, ⟨256, 11150372599265311570767859136324180752990208, 2787593149816327892691964784081045188280320⟩, ⟨1792, 22300745198530623141535718272648361505980416, 13937965749081639463459823920405225941237760⟩, ⟨2816, 44601490397061246283071436545296723011960832, 30663524647979606819611612624891497070723072⟩, ⟨4352, 89202980794122492566142873090593446023921664, 47389083546877574175763401329377768200208384⟩, ⟨16383, 64, 89202980794122492566142873090593446023921664⟩]
set_option maxHeartbeats 4000000 in
set_option maxRecDepth 100000 in
theorem tourlaw1_QuantFields_ok (w0 w : World) (cs : List Chunk) (F : Nat → Prop) (W : World) (f_0 : ByteArray) (f_1 : Int) (f_2 : Int) (v : Int) (A_data : Option Addr) (c_data : Nat) (data : List Int) (hM0 : Mem w0 (Fz F W :: cs) w) (h_data : RdS (Rep.int .u8) F W A_data c_data data) (t9001 : Bool) (hp : tourlaw1_QuantFields f_0 f_1 f_2 v data = some t9001) : Calls Try.prog 5 #[.agg #[.string f_0, vI f_1, vI f_2], vI v, .slice A_data data.length c_data] w fun e w' => (True) ∧ e = .returned (.bool t9001) ∧ Mem w0 (Fz F W :: cs) w' := by
 unfold tourlaw1_QuantFields at hp
 refine sx_calls Try.func5 rfl (n := 147) (by kernel_rfl) (l := [(0, .agg #[.string f_0, vI f_1, vI f_2]), (1, vI v), (2, .slice A_data data.length c_data)]) rfl (by rfl) hM0 ?_
 refine st_seq ?_
 refine st_region [oF 0, oF 1] (by rfl) ?_
 refine ops_new (d := some 3) (o := .cells #[.string f_0, vI f_1, vI f_2] 55) (v := fun b1 => vP b1 0) (M' := fun b1 => Mem w0 (.blk b1 [.string f_0, vI f_1, vI f_2] 55 :: Fz F W :: cs)) (fun b1 => ⟨by kernel_rfl⟩) (fun w_ hM hS => ⟨hM.blk [.string f_0, vI f_1, vI f_2] 55, trivial⟩) (fun b1 => ?_)
 refine oR [oF 1] [(3, vP b1 0), (1, vI v), (2, .slice A_data data.length c_data)] [3, 1, 2] (by kernel_rfl) ?_
 refine ops_nil ?_
 refine fin_then ?_
 refine st_seq ?_
 refine st_seq ?_
 refine st_region [oF 0, oF 1] (by rfl) ?_
 obtain ⟨x2, hv3, hp⟩ := obind hp
 refine ops_callI (σ := Unit) (d := some 16) (f := 35) (args := #[]) (v := (fun _ => .bool x2)) (I := (fun _ => True)) (M' := (fun _ => Mem w0 (.blk b1 [.string f_0, vI f_1, vI f_2] 55 :: Fz F W :: cs))) ⟨by kernel_rfl⟩ (fun w_ hM hS => (tourlaw1_quantBegun_ok w0 w_ (.blk b1 [.string f_0, vI f_1, vI f_2] 55 :: cs) F W  (hM.pick 2 [1, 0] (by kernel_rfl) (by decide) rfl)  x2 hv3).mono (by rintro e w' ⟨-, rfl, h'⟩; have h' : Mem w0 (.blk b1 [.string f_0, vI f_1, vI f_2] 55 :: Fz F W :: cs) w' := (h'.pick 2 [1, 0] (by kernel_rfl) (by decide) rfl); exact ⟨(), trivial, rfl, h', trivial⟩)) ?_
 rintro _ -
 refine ops_conv (l' := [(16, .bool x2), (3, vP b1 0), (1, vI v), (2, .slice A_data data.length c_data)]) (M' := Mem w0 (.blk b1 [.string f_0, vI f_1, vI f_2] 55 :: Fz F W :: cs)) rfl (fun _ h => h) ?_
 refine oR [oF 1] [(17, .bool (!x2)), (3, vP b1 0), (1, vI v), (2, .slice A_data data.length c_data)] [17, 3, 1, 2] (by kernel_rfl) ?_
 refine ops_nil ?_
 refine fin_then ?_
 refine st_if (b := !x2) rfl (fun hc4 => ?_) (fun hc4 => ?_)
 · --
  have hp := cnd_t hc4 hp
  refine st_seq ?_
  refine st_region [oF 0] (by rfl) ?_
  refine oR [oF 0] [(6, .bool false)] [6] (by kernel_rfl) ?_
  refine ops_nil ?_
  refine fin_then ?_
  refine st_ret ?_
  refine fin_ret_then ?_
  have hq_ := Option.some.inj hp
  have hr0_ := hq_
  subst hr0_
  refine fin_ret [.tmp 6] [.bool false] rfl rfl (fun w_ hM => (.tmp rfl .nil)) (fun w_ hM => ?_)
  exact ⟨trivial, rfl, hM.pick 2 [1] (by kernel_rfl) (by decide) rfl⟩
 · --
  have hp := cnd_f hc4 hp
  refine st_skip ?_
  refine fin_then ?_
  refine st_seq ?_
  refine st_region [oF 0] (by rfl) ?_
  refine oR [] [(3, vP b1 0), (1, vI v), (2, .slice A_data data.length c_data)] [3, 1, 2] (by kernel_rfl) ?_
  refine ops_new (d := some 7) (o := .cells #[.slice none 0 0, vI 0] 45) (v := fun b5 => vP b5 0) (M' := fun b5 => Mem w0 (.blk b5 [.slice none 0 0, vI 0] 45 :: .blk b1 [.string f_0, vI f_1, vI f_2] 55 :: Fz F W :: cs)) (fun b5 => ⟨by kernel_rfl⟩) (fun w_ hM hS => ⟨hM.blk [.slice none 0 0, vI 0] 45, trivial⟩) (fun b5 => ?_)
  refine ops_nil ?_
  refine fin_then ?_
  refine st_seq ?_
  refine st_region [oF 0, oF 1, oF 2, oF 3] (by rfl) ?_
  refine ops_mem (d := some 18) (an := [.v (.string f_0), .v (vI f_1), .v (vI f_2)]) (evs := [.load ⟨b1, 0, none⟩ (.string f_0), .load ⟨b1, 1, none⟩ (vI f_1), .load ⟨b1, 2, none⟩ (vI f_2)]) (v := .agg #[.string f_0, vI f_1, vI f_2]) (M' := Mem w0 (.blk b5 [.slice none 0 0, vI 0] 45 :: .blk b1 [.string f_0, vI f_1, vI f_2] 55 :: Fz F W :: cs)) ⟨by kernel_rfl⟩ (fun w_ hM hS => ⟨w_, ⟨hM.cell 1 rfl rfl, hM.cell 1 rfl rfl, hM.cell 1 rfl rfl, rfl⟩, hM, trivial⟩) ?_
  refine oR [oF 1] [(19, vI v), (18, .agg #[.string f_0, vI f_1, vI f_2]), (7, vP b5 0), (3, vP b1 0), (1, vI v), (2, .slice A_data data.length c_data)] [19, 18, 7, 3, 1, 2] (by kernel_rfl) ?_
  refine ops_conv (l' := [(19, vI v), (18, .agg #[.string f_0, vI f_1, vI f_2]), (7, vP b5 0), (3, vP b1 0), (1, vI v), (2, .slice A_data data.length c_data)]) (M' := Mem w0 (orow none ([] : List Int).length 0 5 1 [] :: .blk b5 [.slice none 0 0, vI 0] 45 :: .blk b1 [.string f_0, vI f_1, vI f_2] 55 :: Fz F W :: cs)) rfl (fun w_ h => h.onil none 5 1) ?_
  refine ops_conv (l' := [(19, vI v), (18, .agg #[.string f_0, vI f_1, vI f_2]), (7, vP b5 0), (3, vP b1 0), (1, vI v), (2, .slice A_data data.length c_data)]) (M' := Mem w0 (orow none ([] : List Int).length 0 5 1 [] :: .blk b5 [.slice none ([] : List Int).length 0, vI 0] 45 :: .blk b1 [.string f_0, vI f_1, vI f_2] 55 :: Fz F W :: cs)) rfl (fun _ h => h) ?_
  obtain ⟨x6, x7, x8, hv9, hp⟩ := obind3 hp
  refine ops_callI (σ := (Option Addr) × Nat × (List Value)) (d := some 20) (f := 36) (args := #[vP b5 0, .agg #[.string f_0, vI f_1, vI f_2], vI v]) (v := (fun x_ => match x_ with | (A10, c11, y12) => vI x6)) (I := (fun x_ => match x_ with | (A10, c11, y12) => (RepL (Rep.int .u8) F W x7 y12))) (M' := (fun x_ => match x_ with | (A10, c11, y12) => Mem w0 (orow A10 x7.length c11 5 1 y12 :: .blk b5 [.slice A10 x7.length c11, vI x8] 45 :: .blk b1 [.string f_0, vI f_1, vI f_2] 55 :: Fz F W :: cs))) ⟨by kernel_rfl⟩ (fun w_ hM hS => (quant_Put_ok w0 w_ (.blk b1 [.string f_0, vI f_1, vI f_2] 55 :: cs) F W b5 none 0 ([] : List Int) [] 0 f_0 f_1 f_2 v (hM.pick 4 [1, 0, 3, 2] (by kernel_rfl) (by decide) rfl) (RepL.nil (R := (Rep.int .u8))) x6 x7 x8 hv9).mono (by rintro e w' ⟨A10, c11, y12, h13, rfl, h'⟩; have h' : Mem w0 (orow A10 x7.length c11 5 1 y12 :: .blk b5 [.slice A10 x7.length c11, vI x8] 45 :: .blk b1 [.string f_0, vI f_1, vI f_2] 55 :: Fz F W :: cs) w' := (h'.pick 4 [1, 0, 3, 2] (by kernel_rfl) (by decide) rfl); exact ⟨(A10, c11, y12), h13, rfl, h', trivial⟩)) ?_
  rintro ⟨A10, c11, y12⟩ h13
  refine ops_conv (l' := [(20, vI x6), (19, vI v), (18, .agg #[.string f_0, vI f_1, vI f_2]), (7, vP b5 0), (3, vP b1 0), (1, vI v), (2, .slice A_data data.length c_data)]) (M' := Mem w0 (orow A10 x7.length c11 5 1 y12 :: .blk b5 [.slice A10 x7.length c11, vI x8] 45 :: .blk b1 [.string f_0, vI f_1, vI f_2] 55 :: Fz F W :: cs)) rfl (fun _ h => h) ?_
  refine oR [oF 3] [(8, vI x6), (7, vP b5 0), (3, vP b1 0), (1, vI v), (2, .slice A_data data.length c_data)] [8, 7, 3, 1, 2] (by kernel_rfl) ?_
  refine ops_nil ?_
  refine fin_then ?_
  refine st_seq ?_
  refine st_region [oF 0, oF 1, oF 2] (by rfl) ?_
  refine oR [oF 0] [(21, .slice A_data data.length c_data), (8, vI x6), (7, vP b5 0), (3, vP b1 0), (1, vI v), (2, .slice A_data data.length c_data)] [21, 8, 7, 3, 1, 2] (by kernel_rfl) ?_
  obtain ⟨x14, hv15, hp⟩ := obind hp
  refine ops_callI (σ := Nat × (Option Addr) × Nat × (List Value)) (d := some 22) (f := 15) (args := #[.slice A_data data.length c_data]) (v := (fun x_ => match x_ with | (b16, A17, c18, y19) => vP b16 0)) (I := (fun x_ => match x_ with | (b16, A17, c18, y19) => (RepL (Rep.int .u8) F W x14 y19))) (M' := (fun x_ => match x_ with | (b16, A17, c18, y19) => Mem w0 (.blk b16 [.slice A17 x14.length c18, vI 0] 136 :: orow A17 x14.length c18 5 1 y19 :: orow A10 x7.length c11 5 1 y12 :: .blk b5 [.slice A10 x7.length c11, vI x8] 45 :: .blk b1 [.string f_0, vI f_1, vI f_2] 55 :: Fz F W :: cs))) ⟨by kernel_rfl⟩ (fun w_ hM hS => (bits_New_ok w0 w_ (orow A10 x7.length c11 5 1 y12 :: .blk b5 [.slice A10 x7.length c11, vI x8] 45 :: .blk b1 [.string f_0, vI f_1, vI f_2] 55 :: cs) F W A_data c_data data (hM.pick 4 [3, 0, 1, 2] (by kernel_rfl) (by decide) rfl) h_data x14 hv15).mono (by rintro e w' ⟨b16, A17, c18, y19, h20, rfl, h'⟩; have h' : Mem w0 (.blk b16 [.slice A17 x14.length c18, vI 0] 136 :: orow A17 x14.length c18 5 1 y19 :: orow A10 x7.length c11 5 1 y12 :: .blk b5 [.slice A10 x7.length c11, vI x8] 45 :: .blk b1 [.string f_0, vI f_1, vI f_2] 55 :: Fz F W :: cs) w' := (h'.pick 6 [0, 1, 3, 4, 5, 2] (by kernel_rfl) (by decide) rfl); exact ⟨(b16, A17, c18, y19), h20, rfl, h', trivial⟩)) ?_
  rintro ⟨b16, A17, c18, y19⟩ h20
  refine ops_conv (l' := [(22, vP b16 0), (21, .slice A_data data.length c_data), (8, vI x6), (7, vP b5 0), (3, vP b1 0), (1, vI v), (2, .slice A_data data.length c_data)]) (M' := Mem w0 (.blk b16 [.slice A17 x14.length c18, vI 0] 136 :: orow A17 x14.length c18 5 1 y19 :: orow A10 x7.length c11 5 1 y12 :: .blk b5 [.slice A10 x7.length c11, vI x8] 45 :: .blk b1 [.string f_0, vI f_1, vI f_2] 55 :: Fz F W :: cs)) rfl (fun _ h => h) ?_
  refine oR [oF 2] [(9, vP b16 0), (8, vI x6), (7, vP b5 0), (3, vP b1 0), (1, vI v), (2, .slice A_data data.length c_data)] [9, 8, 7, 3, 1, 2] (by kernel_rfl) ?_
  refine ops_nil ?_
  refine fin_then ?_
  refine st_seq ?_
  refine st_region [oF 0, oF 1, oF 2, oF 3, oF 4, oF 5, oF 6, oF 7] (by rfl) ?_
  refine oR [oF 0] [(24, vP b16 0), (9, vP b16 0), (8, vI x6), (7, vP b5 0), (3, vP b1 0), (1, vI v), (2, .slice A_data data.length c_data)] [24, 9, 8, 7, 3, 1, 2] (by kernel_rfl) ?_
  refine ops_mem (d := some 25) (an := [.v (.string f_0), .v (vI f_1), .v (vI f_2)]) (evs := [.load ⟨b1, 0, none⟩ (.string f_0), .load ⟨b1, 1, none⟩ (vI f_1), .load ⟨b1, 2, none⟩ (vI f_2)]) (v := .agg #[.string f_0, vI f_1, vI f_2]) (M' := Mem w0 (.blk b16 [.slice A17 x14.length c18, vI 0] 136 :: orow A17 x14.length c18 5 1 y19 :: orow A10 x7.length c11 5 1 y12 :: .blk b5 [.slice A10 x7.length c11, vI x8] 45 :: .blk b1 [.string f_0, vI f_1, vI f_2] 55 :: Fz F W :: cs)) ⟨by kernel_rfl⟩ (fun w_ hM hS => ⟨w_, ⟨hM.cell 4 rfl rfl, hM.cell 4 rfl rfl, hM.cell 4 rfl rfl, rfl⟩, hM, trivial⟩) ?_
  obtain ⟨x21, x22, x23, hv24, hp⟩ := obind3 hp
  refine ops_callI (σ := (Option Addr) × (List Value)) (d := some 26) (f := 37) (args := #[vP b16 0, .agg #[.string f_0, vI f_1, vI f_2]]) (v := (fun x_ => match x_ with | (A25, y26) => .tuple #[vI x21, vI x22])) (I := (fun x_ => match x_ with | (A25, y26) => (RepL (Rep.int .u8) F W x14 y26))) (M' := (fun x_ => match x_ with | (A25, y26) => Mem w0 (orow A25 x14.length c18 5 1 y26 :: .blk b16 [.slice A25 x14.length c18, vI x23] 136 :: orow A10 x7.length c11 5 1 y12 :: .blk b5 [.slice A10 x7.length c11, vI x8] 45 :: .blk b1 [.string f_0, vI f_1, vI f_2] 55 :: Fz F W :: cs))) ⟨by kernel_rfl⟩ (fun w_ hM hS => (quant_Get_ok w0 w_ (orow A10 x7.length c11 5 1 y12 :: .blk b5 [.slice A10 x7.length c11, vI x8] 45 :: .blk b1 [.string f_0, vI f_1, vI f_2] 55 :: cs) F W b16 A17 c18 x14 y19 0 f_0 f_1 f_2 (hM.pick 6 [0, 1, 5, 2, 3, 4] (by kernel_rfl) (by decide) rfl) h20 x21 x22 x23 hv24).mono (by rintro e w' ⟨A25, y26, h27, rfl, h'⟩; have h' : Mem w0 (orow A25 x14.length c18 5 1 y26 :: .blk b16 [.slice A25 x14.length c18, vI x23] 136 :: orow A10 x7.length c11 5 1 y12 :: .blk b5 [.slice A10 x7.length c11, vI x8] 45 :: .blk b1 [.string f_0, vI f_1, vI f_2] 55 :: Fz F W :: cs) w' := (h'.pick 6 [1, 0, 3, 4, 5, 2] (by kernel_rfl) (by decide) rfl); exact ⟨(A25, y26), h27, rfl, h', trivial⟩)) ?_
  rintro ⟨A25, y26⟩ h27
  refine ops_conv (l' := [(26, .tuple #[vI x21, vI x22]), (25, .agg #[.string f_0, vI f_1, vI f_2]), (24, vP b16 0), (9, vP b16 0), (8, vI x6), (7, vP b5 0), (3, vP b1 0), (1, vI v), (2, .slice A_data data.length c_data)]) (M' := Mem w0 (orow A25 x14.length c18 5 1 y26 :: .blk b16 [.slice A25 x14.length c18, vI x23] 136 :: orow A10 x7.length c11 5 1 y12 :: .blk b5 [.slice A10 x7.length c11, vI x8] 45 :: .blk b1 [.string f_0, vI f_1, vI f_2] 55 :: Fz F W :: cs)) rfl (fun _ h => h) ?_
  refine oR [oF 3, oF 4, oF 5, oF 6, oF 7] [(11, vI x22), (10, vI x21), (9, vP b16 0), (8, vI x6), (7, vP b5 0), (3, vP b1 0), (1, vI v), (2, .slice A_data data.length c_data)] [11, 10, 9, 8, 7, 3, 1, 2] (by kernel_rfl) ?_
  refine ops_nil ?_
  refine fin_then ?_
  refine st_seq ?_
  refine st_seq ?_
  refine st_region_draw [oT 0, oT 1, oT 3, oT 4, oF 2, oF 5, oT 6] (Mem w0 (orow A25 x14.length c18 5 1 y26 :: .blk b16 [.slice A25 x14.length c18, vI x23] 136 :: orow A10 x7.length c11 5 1 y12 :: .blk b5 [.slice A10 x7.length c11, vI x8] 45 :: .blk b1 [.string f_0, vI f_1, vI f_2] 55 :: Fz F W :: cs)) (by kernel_rfl) (by kernel_rfl) (by kernel_rfl) (fun _ d _ _ _ h => by cases d <;> exact h) (M' := Mem w0 (orow A25 x14.length c18 5 1 y26 :: .blk b16 [.slice A25 x14.length c18, vI x23] 136 :: orow A10 x7.length c11 5 1 y12 :: .blk b5 [.slice A10 x7.length c11, vI x8] 45 :: .blk b1 [.string f_0, vI f_1, vI f_2] 55 :: Fz F W :: cs)) (fun w_ hM => ⟨hM.drew, hM.drew.sub (.cons_cons _ (.cons_cons _ (.cons_cons _ (.cons_cons _ (.cons_cons _ (.cons_cons _ (.refl _)))))))⟩) ?_
  refine ops_load (d := some 29) (an := [.v (.string f_0), .v (vI f_1), .v (vI f_2)]) (evs := [.load ⟨b1, 0, none⟩ (.string f_0), .load ⟨b1, 1, none⟩ (vI f_1), .load ⟨b1, 2, none⟩ (vI f_2)]) (v := .agg #[.string f_0, vI f_1, vI f_2]) ⟨by kernel_rfl⟩ (fun w_ hM => ⟨hM.cell 4 rfl rfl, hM.cell 4 rfl rfl, hM.cell 4 rfl rfl, rfl⟩) ?_
  refine oR [oT 1] [(30, vI v), (29, .agg #[.string f_0, vI f_1, vI f_2]), (11, vI x22), (10, vI x21), (9, vP b16 0), (8, vI x6), (7, vP b5 0), (3, vP b1 0), (1, vI v), (2, .slice A_data data.length c_data)] [30, 29, 11, 10, 9, 8, 7, 3, 1, 2] (by kernel_rfl) ?_
  refine ops_load (d := some 32) (an := [.v (.string f_0), .v (vI f_1), .v (vI f_2)]) (evs := [.load ⟨b1, 0, none⟩ (.string f_0), .load ⟨b1, 1, none⟩ (vI f_1), .load ⟨b1, 2, none⟩ (vI f_2)]) (v := .agg #[.string f_0, vI f_1, vI f_2]) ⟨by kernel_rfl⟩ (fun w_ hM => ⟨hM.cell 4 rfl rfl, hM.cell 4 rfl rfl, hM.cell 4 rfl rfl, rfl⟩) ?_
  refine oR [oT 4] [(33, vI v), (32, .agg #[.string f_0, vI f_1, vI f_2]), (30, vI v), (29, .agg #[.string f_0, vI f_1, vI f_2]), (11, vI x22), (10, vI x21), (9, vP b16 0), (8, vI x6), (7, vP b5 0), (3, vP b1 0), (1, vI v), (2, .slice A_data data.length c_data)] [33, 32, 30, 29, 11, 10, 9, 8, 7, 3, 1, 2] (by kernel_rfl) ?_
  obtain ⟨x28, hv29, hp⟩ := obind hp
  refine ops_callI (σ := Unit) (d := some 31) (f := 38) (args := #[.agg #[.string f_0, vI f_1, vI f_2], vI v]) (v := (fun _ => vI x28)) (I := (fun _ => True)) (M' := (fun _ => Mem w0 (orow A25 x14.length c18 5 1 y26 :: .blk b16 [.slice A25 x14.length c18, vI x23] 136 :: orow A10 x7.length c11 5 1 y12 :: .blk b5 [.slice A10 x7.length c11, vI x8] 45 :: .blk b1 [.string f_0, vI f_1, vI f_2] 55 :: Fz F W :: cs))) ⟨by kernel_rfl⟩ (fun w_ hM hS => (quant_Fit_ok w0 w_ (orow A25 x14.length c18 5 1 y26 :: .blk b16 [.slice A25 x14.length c18, vI x23] 136 :: orow A10 x7.length c11 5 1 y12 :: .blk b5 [.slice A10 x7.length c11, vI x8] 45 :: .blk b1 [.string f_0, vI f_1, vI f_2] 55 :: cs) F W f_0 f_1 f_2 v (hM.pick 6 [5, 0, 1, 2, 3, 4] (by kernel_rfl) (by decide) rfl)  x28 hv29).mono (by rintro e w' ⟨-, rfl, h'⟩; have h' : Mem w0 (orow A25 x14.length c18 5 1 y26 :: .blk b16 [.slice A25 x14.length c18, vI x23] 136 :: orow A10 x7.length c11 5 1 y12 :: .blk b5 [.slice A10 x7.length c11, vI x8] 45 :: .blk b1 [.string f_0, vI f_1, vI f_2] 55 :: Fz F W :: cs) w' := (h'.pick 6 [1, 2, 3, 4, 5, 0] (by kernel_rfl) (by decide) rfl); exact ⟨(), trivial, rfl, h', (by exact h'.sub (.cons_cons _ (.cons_cons _ (.cons_cons _ (.cons_cons _ (.cons_cons _ (.cons_cons _ (.refl _))))))))⟩)) ?_
  rintro _ -
  refine ops_conv (l' := [(31, vI x28), (33, vI v), (32, .agg #[.string f_0, vI f_1, vI f_2]), (30, vI v), (29, .agg #[.string f_0, vI f_1, vI f_2]), (11, vI x22), (10, vI x21), (9, vP b16 0), (8, vI x6), (7, vP b5 0), (3, vP b1 0), (1, vI v), (2, .slice A_data data.length c_data)]) (M' := Mem w0 (orow A25 x14.length c18 5 1 y26 :: .blk b16 [.slice A25 x14.length c18, vI x23] 136 :: orow A10 x7.length c11 5 1 y12 :: .blk b5 [.slice A10 x7.length c11, vI x8] 45 :: .blk b1 [.string f_0, vI f_1, vI f_2] 55 :: Fz F W :: cs)) rfl (fun _ h => h) ?_
  refine oR [] [(31, vI x28), (33, vI v), (32, .agg #[.string f_0, vI f_1, vI f_2]), (11, vI x22), (10, vI x21), (9, vP b16 0), (8, vI x6), (7, vP b5 0), (3, vP b1 0), (1, vI v), (2, .slice A_data data.length c_data)] [31, 33, 32, 11, 10, 9, 8, 7, 3, 1, 2] (by kernel_rfl) ?_
  obtain ⟨x30, hv31, hp⟩ := obind hp
  refine ops_callI (σ := Unit) (d := some 34) (f := 39) (args := #[.agg #[.string f_0, vI f_1, vI f_2], vI v]) (v := (fun _ => vI x30)) (I := (fun _ => True)) (M' := (fun _ => Mem w0 (orow A25 x14.length c18 5 1 y26 :: .blk b16 [.slice A25 x14.length c18, vI x23] 136 :: orow A10 x7.length c11 5 1 y12 :: .blk b5 [.slice A10 x7.length c11, vI x8] 45 :: .blk b1 [.string f_0, vI f_1, vI f_2] 55 :: Fz F W :: cs))) ⟨by kernel_rfl⟩ (fun w_ hM hS => (tourref1_Fitted_ok w0 w_ (orow A25 x14.length c18 5 1 y26 :: .blk b16 [.slice A25 x14.length c18, vI x23] 136 :: orow A10 x7.length c11 5 1 y12 :: .blk b5 [.slice A10 x7.length c11, vI x8] 45 :: .blk b1 [.string f_0, vI f_1, vI f_2] 55 :: cs) F W f_0 f_1 f_2 v (hM.pick 6 [5, 0, 1, 2, 3, 4] (by kernel_rfl) (by decide) rfl)  x30 hv31).mono (by rintro e w' ⟨-, rfl, h'⟩; have h' : Mem w0 (orow A25 x14.length c18 5 1 y26 :: .blk b16 [.slice A25 x14.length c18, vI x23] 136 :: orow A10 x7.length c11 5 1 y12 :: .blk b5 [.slice A10 x7.length c11, vI x8] 45 :: .blk b1 [.string f_0, vI f_1, vI f_2] 55 :: Fz F W :: cs) w' := (h'.pick 6 [1, 2, 3, 4, 5, 0] (by kernel_rfl) (by decide) rfl); exact ⟨(), trivial, rfl, h', (by exact h'.sub (.cons_cons _ (.cons_cons _ (.cons_cons _ (.cons_cons _ (.cons_cons _ (.cons_cons _ (.refl _))))))))⟩)) ?_
  rintro _ -
  refine ops_conv (l' := [(34, vI x30), (31, vI x28), (33, vI v), (32, .agg #[.string f_0, vI f_1, vI f_2]), (11, vI x22), (10, vI x21), (9, vP b16 0), (8, vI x6), (7, vP b5 0), (3, vP b1 0), (1, vI v), (2, .slice A_data data.length c_data)]) (M' := Mem w0 (orow A25 x14.length c18 5 1 y26 :: .blk b16 [.slice A25 x14.length c18, vI x23] 136 :: orow A10 x7.length c11 5 1 y12 :: .blk b5 [.slice A10 x7.length c11, vI x8] 45 :: .blk b1 [.string f_0, vI f_1, vI f_2] 55 :: Fz F W :: cs)) rfl (fun _ h => h) ?_
  refine oR [oT 6] [(35, .bool (!(x28 == x30))), (11, vI x22), (10, vI x21), (9, vP b16 0), (8, vI x6), (7, vP b5 0), (3, vP b1 0), (1, vI v), (2, .slice A_data data.length c_data)] [35, 11, 10, 9, 8, 7, 3, 1, 2] (by kernel_rfl) ?_
  refine ops_nil ?_
  refine fin_then ?_
  refine st_if (b := !(x28 == x30)) rfl (fun hc32 => ?_) (fun hc32 => ?_)
  · --
   have hp := cnd_t hc32 hp
   refine st_seq ?_
   refine st_region [oF 0] (by rfl) ?_
   refine oR [oF 0] [(6, .bool false)] [6] (by kernel_rfl) ?_
   refine ops_nil ?_
   refine fin_then ?_
   refine st_ret ?_
   refine fin_ret_then ?_
   have hq_ := Option.some.inj hp
   have hr0_ := hq_
   subst hr0_
   refine fin_ret [.tmp 6] [.bool false] rfl rfl (fun w_ hM => (.tmp rfl .nil)) (fun w_ hM => ?_)
   exact ⟨trivial, rfl, hM.pick 6 [5] (by kernel_rfl) (by decide) rfl⟩
  · --
   have hp := cnd_f hc32 hp
   refine st_skip ?_
   refine fin_then ?_
   refine st_seq ?_
   refine st_seq ?_
   refine st_region [oF 0, oF 1, oF 2] (by rfl) ?_
   refine oR [] [(11, vI x22), (10, vI x21), (9, vP b16 0), (8, vI x6), (7, vP b5 0), (3, vP b1 0), (1, vI v), (2, .slice A_data data.length c_data)] [11, 10, 9, 8, 7, 3, 1, 2] (by kernel_rfl) ?_
   refine ops_mem (d := some 36) (an := [.v (.string f_0), .v (vI f_1), .v (vI f_2)]) (evs := [.load ⟨b1, 0, none⟩ (.string f_0), .load ⟨b1, 1, none⟩ (vI f_1), .load ⟨b1, 2, none⟩ (vI f_2)]) (v := .agg #[.string f_0, vI f_1, vI f_2]) (M' := Mem w0 (orow A25 x14.length c18 5 1 y26 :: .blk b16 [.slice A25 x14.length c18, vI x23] 136 :: orow A10 x7.length c11 5 1 y12 :: .blk b5 [.slice A10 x7.length c11, vI x8] 45 :: .blk b1 [.string f_0, vI f_1, vI f_2] 55 :: Fz F W :: cs)) ⟨by kernel_rfl⟩ (fun w_ hM hS => ⟨w_, ⟨hM.cell 4 rfl rfl, hM.cell 4 rfl rfl, hM.cell 4 rfl rfl, rfl⟩, hM, trivial⟩) ?_
   obtain ⟨x33, hv34, hp⟩ := obind hp
   refine ops_callI (σ := Unit) (d := some 37) (f := 40) (args := #[.agg #[.string f_0, vI f_1, vI f_2]]) (v := (fun _ => .bool x33)) (I := (fun _ => True)) (M' := (fun _ => Mem w0 (orow A25 x14.length c18 5 1 y26 :: .blk b16 [.slice A25 x14.length c18, vI x23] 136 :: orow A10 x7.length c11 5 1 y12 :: .blk b5 [.slice A10 x7.length c11, vI x8] 45 :: .blk b1 [.string f_0, vI f_1, vI f_2] 55 :: Fz F W :: cs))) ⟨by kernel_rfl⟩ (fun w_ hM hS => (tourref1_FieldIs_ok w0 w_ (orow A25 x14.length c18 5 1 y26 :: .blk b16 [.slice A25 x14.length c18, vI x23] 136 :: orow A10 x7.length c11 5 1 y12 :: .blk b5 [.slice A10 x7.length c11, vI x8] 45 :: .blk b1 [.string f_0, vI f_1, vI f_2] 55 :: cs) F W f_0 f_1 f_2 (hM.pick 6 [5, 0, 1, 2, 3, 4] (by kernel_rfl) (by decide) rfl)  x33 hv34).mono (by rintro e w' ⟨-, rfl, h'⟩; have h' : Mem w0 (orow A25 x14.length c18 5 1 y26 :: .blk b16 [.slice A25 x14.length c18, vI x23] 136 :: orow A10 x7.length c11 5 1 y12 :: .blk b5 [.slice A10 x7.length c11, vI x8] 45 :: .blk b1 [.string f_0, vI f_1, vI f_2] 55 :: Fz F W :: cs) w' := (h'.pick 6 [1, 2, 3, 4, 5, 0] (by kernel_rfl) (by decide) rfl); exact ⟨(), trivial, rfl, h', trivial⟩)) ?_
   rintro _ -
   refine ops_conv (l' := [(37, .bool x33), (36, .agg #[.string f_0, vI f_1, vI f_2]), (11, vI x22), (10, vI x21), (9, vP b16 0), (8, vI x6), (7, vP b5 0), (3, vP b1 0), (1, vI v), (2, .slice A_data data.length c_data)]) (M' := Mem w0 (orow A25 x14.length c18 5 1 y26 :: .blk b16 [.slice A25 x14.length c18, vI x23] 136 :: orow A10 x7.length c11 5 1 y12 :: .blk b5 [.slice A10 x7.length c11, vI x8] 45 :: .blk b1 [.string f_0, vI f_1, vI f_2] 55 :: Fz F W :: cs)) rfl (fun _ h => h) ?_
   refine oR [oF 2] [(38, .bool (!x33)), (11, vI x22), (10, vI x21), (9, vP b16 0), (8, vI x6), (7, vP b5 0), (3, vP b1 0), (1, vI v), (2, .slice A_data data.length c_data)] [38, 11, 10, 9, 8, 7, 3, 1, 2] (by kernel_rfl) ?_
   refine ops_nil ?_
   refine fin_then ?_
   refine st_if (b := !x33) rfl (fun hc35 => ?_) (fun hc35 => ?_)
   · --
    have hp := cnd_t hc35 hp
    refine st_join1 (σ := Bool) (L := fun x_ => match x_ with | t36 => [(6, .bool t36)]) (N := fun x_ => match x_ with | t36 => Mem w0 (Fz F W :: cs)) (I := fun x_ => match x_ with | t36 => (tourlaw1_QuantFields_j1 t36 = some t9001)) ?_ ?_
    · --
     rintro t36 hp
     refine st_conv (l' := [(6, .bool t36)]) (M' := Mem w0 (Fz F W :: cs)) rfl (fun _ h => h) ?_
     unfold tourlaw1_QuantFields_j1 at hp
     refine st_ret ?_
     refine fin_ret_then ?_
     have hq_ := Option.some.inj hp
     have hr0_ := hq_
     subst hr0_
     refine fin_ret [.tmp 6] [.bool t36] rfl rfl (fun w_ hM => (.tmp rfl .nil)) (fun w_ hM => ?_)
     exact ⟨trivial, rfl, hM⟩
    · --
     intro HJ1
     refine st_seq ?_
     refine st_region [oF 0, oF 1, oF 2, oF 3, oF 4, oF 5, oF 6, oF 7, oF 8, oF 9, oF 10, oF 11, oF 12, oF 13, oF 14, oF 15, oF 16, oF 17, oF 18, oF 19, oF 20, oF 21, oF 22, oF 23, oF 24, oF 25, oF 26, oF 27] (by rfl) ?_
     refine oR [] [(11, vI x22), (10, vI x21), (9, vP b16 0), (8, vI x6), (7, vP b5 0), (3, vP b1 0), (2, .slice A_data data.length c_data)] [11, 10, 9, 8, 7, 3, 2] (by kernel_rfl) ?_
     refine ops_mem (d := some 39) (an := [.v (.string f_0), .v (vI f_1), .v (vI f_2)]) (evs := [.load ⟨b1, 0, none⟩ (.string f_0), .load ⟨b1, 1, none⟩ (vI f_1), .load ⟨b1, 2, none⟩ (vI f_2)]) (v := .agg #[.string f_0, vI f_1, vI f_2]) (M' := Mem w0 (orow A25 x14.length c18 5 1 y26 :: .blk b16 [.slice A25 x14.length c18, vI x23] 136 :: orow A10 x7.length c11 5 1 y12 :: .blk b5 [.slice A10 x7.length c11, vI x8] 45 :: .blk b1 [.string f_0, vI f_1, vI f_2] 55 :: Fz F W :: cs)) ⟨by kernel_rfl⟩ (fun w_ hM hS => ⟨w_, ⟨hM.cell 4 rfl rfl, hM.cell 4 rfl rfl, hM.cell 4 rfl rfl, rfl⟩, hM, trivial⟩) ?_
     refine oR [] [(39, .agg #[.string f_0, vI f_1, vI f_2]), (11, vI x22), (10, vI x21), (9, vP b16 0), (8, vI x6), (7, vP b5 0), (2, .slice A_data data.length c_data)] [39, 11, 10, 9, 8, 7, 2] (by kernel_rfl) ?_
     obtain ⟨x37, hv38, hp⟩ := obind hp
     refine ops_callI (σ := Unit) (d := some 40) (f := 41) (args := #[.agg #[.string f_0, vI f_1, vI f_2]]) (v := (fun _ => vI x37)) (I := (fun _ => True)) (M' := (fun _ => Mem w0 (orow A25 x14.length c18 5 1 y26 :: .blk b16 [.slice A25 x14.length c18, vI x23] 136 :: orow A10 x7.length c11 5 1 y12 :: .blk b5 [.slice A10 x7.length c11, vI x8] 45 :: .blk b1 [.string f_0, vI f_1, vI f_2] 55 :: Fz F W :: cs))) ⟨by kernel_rfl⟩ (fun w_ hM hS => (quant_Check_ok w0 w_ (orow A25 x14.length c18 5 1 y26 :: .blk b16 [.slice A25 x14.length c18, vI x23] 136 :: orow A10 x7.length c11 5 1 y12 :: .blk b5 [.slice A10 x7.length c11, vI x8] 45 :: .blk b1 [.string f_0, vI f_1, vI f_2] 55 :: cs) F W f_0 f_1 f_2 (hM.pick 6 [5, 0, 1, 2, 3, 4] (by kernel_rfl) (by decide) rfl)  x37 hv38).mono (by rintro e w' ⟨-, rfl, h'⟩; have h' : Mem w0 (orow A25 x14.length c18 5 1 y26 :: .blk b16 [.slice A25 x14.length c18, vI x23] 136 :: orow A10 x7.length c11 5 1 y12 :: .blk b5 [.slice A10 x7.length c11, vI x8] 45 :: .blk b1 [.string f_0, vI f_1, vI f_2] 55 :: Fz F W :: cs) w' := (h'.pick 6 [1, 2, 3, 4, 5, 0] (by kernel_rfl) (by decide) rfl); exact ⟨(), trivial, rfl, h', trivial⟩)) ?_
     rintro _ -
     refine ops_conv (l' := [(40, vI x37), (39, .agg #[.string f_0, vI f_1, vI f_2]), (11, vI x22), (10, vI x21), (9, vP b16 0), (8, vI x6), (7, vP b5 0), (2, .slice A_data data.length c_data)]) (M' := Mem w0 (orow A25 x14.length c18 5 1 y26 :: .blk b16 [.slice A25 x14.length c18, vI x23] 136 :: orow A10 x7.length c11 5 1 y12 :: .blk b5 [.slice A10 x7.length c11, vI x8] 45 :: .blk b1 [.string f_0, vI f_1, vI f_2] 55 :: Fz F W :: cs)) rfl (fun _ h => h) ?_
     refine oR [oF 2, oF 3] [(42, .bool (x37 == 3)), (11, vI x22), (10, vI x21), (9, vP b16 0), (8, vI x6), (7, vP b5 0), (2, .slice A_data data.length c_data)] [42, 11, 10, 9, 8, 7, 2] (by kernel_rfl) ?_
     refine ops_bool (t := (x37 == 3)) (l1 := [(42, .bool true), (11, vI x22), (10, vI x21), (9, vP b16 0), (8, vI x6), (7, vP b5 0), (2, .slice A_data data.length c_data)]) (l2 := [(42, .bool false), (11, vI x22), (10, vI x21), (9, vP b16 0), (8, vI x6), (7, vP b5 0), (2, .slice A_data data.length c_data)]) (fun h => by rw [h]) (fun h => by rw [h]) (fun hc39 => ?_) (fun hc39 => ?_)
     · --
      have hp := cnd_t hc39 hp
      refine oR [oF 4, oF 5, oF 6, oF 7] [(46, .bool (x6 == 3)), (11, vI x22), (10, vI x21), (9, vP b16 0), (7, vP b5 0), (2, .slice A_data data.length c_data)] [46, 11, 10, 9, 7, 2] (by kernel_rfl) ?_
      refine ops_bool (t := (x6 == 3)) (l1 := [(46, .bool true), (11, vI x22), (10, vI x21), (9, vP b16 0), (7, vP b5 0), (2, .slice A_data data.length c_data)]) (l2 := [(46, .bool false), (11, vI x22), (10, vI x21), (9, vP b16 0), (7, vP b5 0), (2, .slice A_data data.length c_data)]) (fun h => by rw [h]) (fun h => by rw [h]) (fun hc40 => ?_) (fun hc40 => ?_)
      · --
       have hp := cnd_t hc40 hp
       refine oR [oF 8, oF 9, oF 10, oF 11] [(50, .bool (x22 == 3)), (10, vI x21), (9, vP b16 0), (7, vP b5 0), (2, .slice A_data data.length c_data)] [50, 10, 9, 7, 2] (by kernel_rfl) ?_
       refine ops_bool (t := (x22 == 3)) (l1 := [(50, .bool true), (10, vI x21), (9, vP b16 0), (7, vP b5 0), (2, .slice A_data data.length c_data)]) (l2 := [(50, .bool false), (10, vI x21), (9, vP b16 0), (7, vP b5 0), (2, .slice A_data data.length c_data)]) (fun h => by rw [h]) (fun h => by rw [h]) (fun hc41 => ?_) (fun hc41 => ?_)
       · --
        have hp := cnd_t hc41 hp
        refine oR [oF 12, oF 13, oF 14, oF 15] [(54, .bool (x21 == 0)), (9, vP b16 0), (7, vP b5 0), (2, .slice A_data data.length c_data)] [54, 9, 7, 2] (by kernel_rfl) ?_
        refine ops_bool (t := (x21 == 0)) (l1 := [(54, .bool true), (9, vP b16 0), (7, vP b5 0), (2, .slice A_data data.length c_data)]) (l2 := [(54, .bool false), (9, vP b16 0), (7, vP b5 0), (2, .slice A_data data.length c_data)]) (fun h => by rw [h]) (fun h => by rw [h]) (fun hc42 => ?_) (fun hc42 => ?_)
        · --
         have hp := cnd_t hc42 hp
         obtain ⟨_, hv43, hp⟩ := obind hp
         refine ops_callI (σ := (List Value)) (d := some 55) (f := 31) (args := #[vP b5 0]) (v := (fun x_ => match x_ with | y44 => vI x8)) (I := (fun x_ => match x_ with | y44 => (RepL (Rep.int .u8) F W x7 y44))) (M' := (fun x_ => match x_ with | y44 => Mem w0 (orow A10 x7.length c11 5 1 y44 :: orow A25 x14.length c18 5 1 y26 :: .blk b16 [.slice A25 x14.length c18, vI x23] 136 :: .blk b5 [.slice A10 x7.length c11, vI x8] 45 :: .blk b1 [.string f_0, vI f_1, vI f_2] 55 :: Fz F W :: cs))) ⟨by kernel_rfl⟩ (fun w_ hM hS => (bits_Writer_Len_ok w0 w_ (orow A25 x14.length c18 5 1 y26 :: .blk b16 [.slice A25 x14.length c18, vI x23] 136 :: .blk b1 [.string f_0, vI f_1, vI f_2] 55 :: cs) F W b5 A10 c11 x7 y12 x8 (hM.pick 6 [3, 2, 5, 0, 1, 4] (by kernel_rfl) (by decide) rfl) h13  hv43).mono (by rintro e w' ⟨y44, h45, rfl, h'⟩; have h' : Mem w0 (orow A10 x7.length c11 5 1 y44 :: orow A25 x14.length c18 5 1 y26 :: .blk b16 [.slice A25 x14.length c18, vI x23] 136 :: .blk b5 [.slice A10 x7.length c11, vI x8] 45 :: .blk b1 [.string f_0, vI f_1, vI f_2] 55 :: Fz F W :: cs) w' := (h'.pick 6 [1, 3, 4, 0, 5, 2] (by kernel_rfl) (by decide) rfl); exact ⟨y44, h45, rfl, h', trivial⟩)) ?_
         rintro y44 h45
         refine ops_conv (l' := [(55, vI x8), (54, .bool true), (9, vP b16 0), (7, vP b5 0), (2, .slice A_data data.length c_data)]) (M' := Mem w0 (orow A10 x7.length c11 5 1 y44 :: orow A25 x14.length c18 5 1 y26 :: .blk b16 [.slice A25 x14.length c18, vI x23] 136 :: .blk b5 [.slice A10 x7.length c11, vI x8] 45 :: .blk b1 [.string f_0, vI f_1, vI f_2] 55 :: Fz F W :: cs)) rfl (fun _ h => h) ?_
         refine oR [oF 17, oF 18, oF 19] [(58, .bool (x8 == 0)), (9, vP b16 0), (2, .slice A_data data.length c_data)] [58, 9, 2] (by kernel_rfl) ?_
         refine ops_bool (t := (x8 == 0)) (l1 := [(58, .bool true), (9, vP b16 0), (2, .slice A_data data.length c_data)]) (l2 := [(58, .bool false), (9, vP b16 0), (2, .slice A_data data.length c_data)]) (fun h => by rw [h]) (fun h => by rw [h]) (fun hc46 => ?_) (fun hc46 => ?_)
         · --
          have hp := cnd_t hc46 hp
          refine oR [oF 20] [(59, vP b16 0), (58, .bool true), (2, .slice A_data data.length c_data)] [59, 58, 2] (by kernel_rfl) ?_
          obtain ⟨x47, hv48, hp⟩ := obind hp
          refine ops_callI (σ := (List Value)) (d := some 60) (f := 23) (args := #[vP b16 0]) (v := (fun x_ => match x_ with | y49 => vI x47)) (I := (fun x_ => match x_ with | y49 => (RepL (Rep.int .u8) F W x14 y49))) (M' := (fun x_ => match x_ with | y49 => Mem w0 (orow A25 x14.length c18 5 1 y49 :: orow A10 x7.length c11 5 1 y44 :: .blk b16 [.slice A25 x14.length c18, vI x23] 136 :: .blk b5 [.slice A10 x7.length c11, vI x8] 45 :: .blk b1 [.string f_0, vI f_1, vI f_2] 55 :: Fz F W :: cs))) ⟨by kernel_rfl⟩ (fun w_ hM hS => (bits_Reader_Left_ok w0 w_ (orow A10 x7.length c11 5 1 y44 :: .blk b5 [.slice A10 x7.length c11, vI x8] 45 :: .blk b1 [.string f_0, vI f_1, vI f_2] 55 :: cs) F W b16 A25 c18 x14 y26 x23 (hM.pick 6 [2, 1, 5, 0, 3, 4] (by kernel_rfl) (by decide) rfl) h27 x47 hv48).mono (by rintro e w' ⟨y49, h50, rfl, h'⟩; have h' : Mem w0 (orow A25 x14.length c18 5 1 y49 :: orow A10 x7.length c11 5 1 y44 :: .blk b16 [.slice A25 x14.length c18, vI x23] 136 :: .blk b5 [.slice A10 x7.length c11, vI x8] 45 :: .blk b1 [.string f_0, vI f_1, vI f_2] 55 :: Fz F W :: cs) w' := (h'.pick 6 [1, 3, 0, 4, 5, 2] (by kernel_rfl) (by decide) rfl); exact ⟨y49, h50, rfl, h', trivial⟩)) ?_
          rintro y49 h50
          refine ops_conv (l' := [(60, vI x47), (59, vP b16 0), (58, .bool true), (2, .slice A_data data.length c_data)]) (M' := Mem w0 (orow A25 x14.length c18 5 1 y49 :: orow A10 x7.length c11 5 1 y44 :: .blk b16 [.slice A25 x14.length c18, vI x23] 136 :: .blk b5 [.slice A10 x7.length c11, vI x8] 45 :: .blk b1 [.string f_0, vI f_1, vI f_2] 55 :: Fz F W :: cs)) rfl (fun _ h => h) ?_
          refine oR [oF 22, oF 23, oF 24, oF 25, oF 26, oF 27] [(6, .bool (x47 == IntKind.i64.wrap (8 * (data.length : Int))))] [6] (by kernel_rfl) ?_
          refine ops_nil ?_
          exact fin_join HJ1 (x47 == IntKind.i64.wrap (8 * (data.length : Int))) hp (look_has ⟨rfl, trivial⟩) (fun w_ hM => hM.pick 6 [5] (by kernel_rfl) (by decide) rfl)
         · --
          have hp := cnd_f hc46 hp
          refine oR [oF 20, oF 21, oF 22, oF 23, oF 24, oF 25, oF 26, oF 27] [(6, .bool false)] [6] (by kernel_rfl) ?_
          refine ops_nil ?_
          exact fin_join HJ1 false hp (look_has ⟨rfl, trivial⟩) (fun w_ hM => hM.pick 6 [5] (by kernel_rfl) (by decide) rfl)
        · --
         have hp := cnd_f hc42 hp
         refine oR [oF 16, oF 17, oF 18, oF 19, oF 20, oF 21, oF 22, oF 23, oF 24, oF 25, oF 26, oF 27] [(6, .bool false)] [6] (by kernel_rfl) ?_
         refine ops_nil ?_
         exact fin_join HJ1 false hp (look_has ⟨rfl, trivial⟩) (fun w_ hM => hM.pick 6 [5] (by kernel_rfl) (by decide) rfl)
       · --
        have hp := cnd_f hc41 hp
        refine oR [oF 12, oF 13, oF 14, oF 15, oF 16, oF 17, oF 18, oF 19, oF 20, oF 21, oF 22, oF 23, oF 24, oF 25, oF 26, oF 27] [(6, .bool false)] [6] (by kernel_rfl) ?_
        refine ops_nil ?_
        exact fin_join HJ1 false hp (look_has ⟨rfl, trivial⟩) (fun w_ hM => hM.pick 6 [5] (by kernel_rfl) (by decide) rfl)
      · --
       have hp := cnd_f hc40 hp
       refine oR [oF 8, oF 9, oF 10, oF 11, oF 12, oF 13, oF 14, oF 15, oF 16, oF 17, oF 18, oF 19, oF 20, oF 21, oF 22, oF 23, oF 24, oF 25, oF 26, oF 27] [(6, .bool false)] [6] (by kernel_rfl) ?_
       refine ops_nil ?_
       exact fin_join HJ1 false hp (look_has ⟨rfl, trivial⟩) (fun w_ hM => hM.pick 6 [5] (by kernel_rfl) (by decide) rfl)
     · --
      have hp := cnd_f hc39 hp
      refine oR [oF 4, oF 5, oF 6, oF 7, oF 8, oF 9, oF 10, oF 11, oF 12, oF 13, oF 14, oF 15, oF 16, oF 17, oF 18, oF 19, oF 20, oF 21, oF 22, oF 23, oF 24, oF 25, oF 26, oF 27] [(6, .bool false)] [6] (by kernel_rfl) ?_
      refine ops_nil ?_
      exact fin_join HJ1 false hp (look_has ⟨rfl, trivial⟩) (fun w_ hM => hM.pick 6 [5] (by kernel_rfl) (by decide) rfl)
   · --
    have hp := cnd_f hc35 hp
    refine st_skip ?_
    refine fin_then ?_
    refine st_seq ?_
    refine st_region [oF 0, oF 1, oF 2] (by rfl) ?_
    refine oR [oF 0] [(66, .slice A_data data.length c_data), (11, vI x22), (10, vI x21), (9, vP b16 0), (8, vI x6), (7, vP b5 0), (3, vP b1 0), (1, vI v)] [66, 11, 10, 9, 8, 7, 3, 1] (by kernel_rfl) ?_
    obtain ⟨x51, hv52, hp⟩ := obind hp
    refine ops_callI (σ := Nat × (Option Addr) × Nat × (List Value)) (d := some 67) (f := 17) (args := #[.slice A_data data.length c_data]) (v := (fun x_ => match x_ with | (b53, A54, c55, y56) => vP b53 0)) (I := (fun x_ => match x_ with | (b53, A54, c55, y56) => (RepL Rep.bool F W x51 y56))) (M' := (fun x_ => match x_ with | (b53, A54, c55, y56) => Mem w0 (.blk b53 [.slice A54 x51.length c55, vI 0] 40 :: orow A54 x51.length c55 4 1 y56 :: orow A25 x14.length c18 5 1 y26 :: .blk b16 [.slice A25 x14.length c18, vI x23] 136 :: orow A10 x7.length c11 5 1 y12 :: .blk b5 [.slice A10 x7.length c11, vI x8] 45 :: .blk b1 [.string f_0, vI f_1, vI f_2] 55 :: Fz F W :: cs))) ⟨by kernel_rfl⟩ (fun w_ hM hS => (tourref1_BitsOf_ok w0 w_ (orow A25 x14.length c18 5 1 y26 :: .blk b16 [.slice A25 x14.length c18, vI x23] 136 :: orow A10 x7.length c11 5 1 y12 :: .blk b5 [.slice A10 x7.length c11, vI x8] 45 :: .blk b1 [.string f_0, vI f_1, vI f_2] 55 :: cs) F W A_data c_data data (hM.pick 6 [5, 0, 1, 2, 3, 4] (by kernel_rfl) (by decide) rfl) h_data x51 hv52).mono (by rintro e w' ⟨b53, A54, c55, y56, h57, rfl, h'⟩; have h' : Mem w0 (.blk b53 [.slice A54 x51.length c55, vI 0] 40 :: orow A54 x51.length c55 4 1 y56 :: orow A25 x14.length c18 5 1 y26 :: .blk b16 [.slice A25 x14.length c18, vI x23] 136 :: orow A10 x7.length c11 5 1 y12 :: .blk b5 [.slice A10 x7.length c11, vI x8] 45 :: .blk b1 [.string f_0, vI f_1, vI f_2] 55 :: Fz F W :: cs) w' := (h'.pick 8 [0, 1, 3, 4, 5, 6, 7, 2] (by kernel_rfl) (by decide) rfl); exact ⟨(b53, A54, c55, y56), h57, rfl, h', trivial⟩)) ?_
    rintro ⟨b53, A54, c55, y56⟩ h57
    refine ops_conv (l' := [(67, vP b53 0), (66, .slice A_data data.length c_data), (11, vI x22), (10, vI x21), (9, vP b16 0), (8, vI x6), (7, vP b5 0), (3, vP b1 0), (1, vI v)]) (M' := Mem w0 (.blk b53 [.slice A54 x51.length c55, vI 0] 40 :: orow A54 x51.length c55 4 1 y56 :: orow A25 x14.length c18 5 1 y26 :: .blk b16 [.slice A25 x14.length c18, vI x23] 136 :: orow A10 x7.length c11 5 1 y12 :: .blk b5 [.slice A10 x7.length c11, vI x8] 45 :: .blk b1 [.string f_0, vI f_1, vI f_2] 55 :: Fz F W :: cs)) rfl (fun _ h => h) ?_
    refine oR [oF 2] [(12, vP b53 0), (11, vI x22), (10, vI x21), (9, vP b16 0), (8, vI x6), (7, vP b5 0), (3, vP b1 0), (1, vI v)] [12, 11, 10, 9, 8, 7, 3, 1] (by kernel_rfl) ?_
    refine ops_nil ?_
    refine fin_then ?_
    refine st_seq ?_
    refine st_region [oF 0, oF 1, oF 2, oF 3, oF 4, oF 5, oF 6, oF 7, oF 8] (by rfl) ?_
    refine oR [oF 0, oF 1] [(70, vP b1 1), (69, vP b53 0), (12, vP b53 0), (11, vI x22), (10, vI x21), (9, vP b16 0), (8, vI x6), (7, vP b5 0), (3, vP b1 0), (1, vI v)] [70, 69, 12, 11, 10, 9, 8, 7, 3, 1] (by kernel_rfl) ?_
    refine ops_mem (d := some 71) (an := [.v (vI f_1)]) (evs := [.load ⟨b1, 1, none⟩ (vI f_1)]) (v := vI f_1) (M' := Mem w0 (.blk b53 [.slice A54 x51.length c55, vI 0] 40 :: orow A54 x51.length c55 4 1 y56 :: orow A25 x14.length c18 5 1 y26 :: .blk b16 [.slice A25 x14.length c18, vI x23] 136 :: orow A10 x7.length c11 5 1 y12 :: .blk b5 [.slice A10 x7.length c11, vI x8] 45 :: .blk b1 [.string f_0, vI f_1, vI f_2] 55 :: Fz F W :: cs)) ⟨by kernel_rfl⟩ (fun w_ hM hS => ⟨w_, ⟨hM.cell 6 rfl rfl, rfl⟩, hM, trivial⟩) ?_
    refine oR [] [(71, vI f_1), (69, vP b53 0), (12, vP b53 0), (11, vI x22), (10, vI x21), (9, vP b16 0), (8, vI x6), (7, vP b5 0), (3, vP b1 0), (1, vI v)] [71, 69, 12, 11, 10, 9, 8, 7, 3, 1] (by kernel_rfl) ?_
    obtain ⟨x58, x59, x60, hv61, hp⟩ := obind3 hp
    refine ops_callI (σ := (Option Addr) × (List Value)) (d := some 72) (f := 18) (args := #[vP b53 0, vI f_1]) (v := (fun x_ => match x_ with | (A62, y63) => .tuple #[vU x58, vI x59])) (I := (fun x_ => match x_ with | (A62, y63) => (RepL Rep.bool F W x51 y63))) (M' := (fun x_ => match x_ with | (A62, y63) => Mem w0 (orow A62 x51.length c55 4 1 y63 :: .blk b53 [.slice A62 x51.length c55, vI x60] 40 :: orow A25 x14.length c18 5 1 y26 :: .blk b16 [.slice A25 x14.length c18, vI x23] 136 :: orow A10 x7.length c11 5 1 y12 :: .blk b5 [.slice A10 x7.length c11, vI x8] 45 :: .blk b1 [.string f_0, vI f_1, vI f_2] 55 :: Fz F W :: cs))) ⟨by kernel_rfl⟩ (fun w_ hM hS => (tourref1_Bits_Read_ok w0 w_ (orow A25 x14.length c18 5 1 y26 :: .blk b16 [.slice A25 x14.length c18, vI x23] 136 :: orow A10 x7.length c11 5 1 y12 :: .blk b5 [.slice A10 x7.length c11, vI x8] 45 :: .blk b1 [.string f_0, vI f_1, vI f_2] 55 :: cs) F W b53 A54 c55 x51 y56 0 f_1 (hM.pick 8 [0, 1, 7, 2, 3, 4, 5, 6] (by kernel_rfl) (by decide) rfl) h57 x58 x59 x60 hv61).mono (by rintro e w' ⟨A62, y63, h64, rfl, h'⟩; have h' : Mem w0 (orow A62 x51.length c55 4 1 y63 :: .blk b53 [.slice A62 x51.length c55, vI x60] 40 :: orow A25 x14.length c18 5 1 y26 :: .blk b16 [.slice A25 x14.length c18, vI x23] 136 :: orow A10 x7.length c11 5 1 y12 :: .blk b5 [.slice A10 x7.length c11, vI x8] 45 :: .blk b1 [.string f_0, vI f_1, vI f_2] 55 :: Fz F W :: cs) w' := (h'.pick 8 [1, 0, 3, 4, 5, 6, 7, 2] (by kernel_rfl) (by decide) rfl); exact ⟨(A62, y63), h64, rfl, h', trivial⟩)) ?_
    rintro ⟨A62, y63⟩ h64
    refine ops_conv (l' := [(72, .tuple #[vU x58, vI x59]), (71, vI f_1), (69, vP b53 0), (12, vP b53 0), (11, vI x22), (10, vI x21), (9, vP b16 0), (8, vI x6), (7, vP b5 0), (3, vP b1 0), (1, vI v)]) (M' := Mem w0 (orow A62 x51.length c55 4 1 y63 :: .blk b53 [.slice A62 x51.length c55, vI x60] 40 :: orow A25 x14.length c18 5 1 y26 :: .blk b16 [.slice A25 x14.length c18, vI x23] 136 :: orow A10 x7.length c11 5 1 y12 :: .blk b5 [.slice A10 x7.length c11, vI x8] 45 :: .blk b1 [.string f_0, vI f_1, vI f_2] 55 :: Fz F W :: cs)) rfl (fun _ h => h) ?_
    refine oR [oF 4, oF 5, oF 6, oF 7, oF 8] [(14, vI x59), (13, vU x58), (12, vP b53 0), (11, vI x22), (10, vI x21), (9, vP b16 0), (8, vI x6), (7, vP b5 0), (3, vP b1 0), (1, vI v)] [14, 13, 12, 11, 10, 9, 8, 7, 3, 1] (by kernel_rfl) ?_
    refine ops_nil ?_
    refine fin_then ?_
    refine st_join1 (σ := Int) (L := fun x_ => match x_ with | i65 => [(1, vI v), (3, vP b1 0), (7, vP b5 0), (8, vI x6), (9, vP b16 0), (10, vI x21), (11, vI x22), (12, vP b53 0), (13, vU i65), (14, vI x59)]) (N := fun x_ => match x_ with | i65 => Mem w0 (.blk b1 [.string f_0, vI f_1, vI f_2] 55 :: .blk b5 [.slice A10 x7.length c11, vI x8] 45 :: orow A10 x7.length c11 5 1 y12 :: .blk b16 [.slice A25 x14.length c18, vI x23] 136 :: orow A25 x14.length c18 5 1 y26 :: .blk b53 [.slice A62 x51.length c55, vI x60] 40 :: orow A62 x51.length c55 4 1 y63 :: Fz F W :: cs)) (I := fun x_ => match x_ with | i65 => ((tourlaw1_QuantFields_j2 f_0 f_1 f_2 x22 x59 x21 x14 x23 x51 x60 v x6 x7 x8) i65 = some t9001)) ?_ ?_
    · --
     rintro i65 hp
     refine st_conv (l' := [(1, vI v), (3, vP b1 0), (7, vP b5 0), (8, vI x6), (9, vP b16 0), (10, vI x21), (11, vI x22), (12, vP b53 0), (13, vU i65), (14, vI x59)]) (M' := Mem w0 (.blk b1 [.string f_0, vI f_1, vI f_2] 55 :: .blk b5 [.slice A10 x7.length c11, vI x8] 45 :: orow A10 x7.length c11 5 1 y12 :: .blk b16 [.slice A25 x14.length c18, vI x23] 136 :: orow A25 x14.length c18 5 1 y26 :: .blk b53 [.slice A62 x51.length c55, vI x60] 40 :: orow A62 x51.length c55 4 1 y63 :: Fz F W :: cs)) rfl (fun _ h => h) ?_
     unfold tourlaw1_QuantFields_j2 at hp
     refine st_seq ?_
     refine st_seq ?_
     refine st_region_fast tourlaw1_QuantFields__t0 [oT 0, oF 1, oT 2, oT 3, oT 4, oT 5, oT 6, oT 7, oT 8, oT 9, oT 10, oT 11, oT 12, oT 13, oT 14, oT 15, oT 17, oT 18, oT 19, oT 20, oT 21, oT 22, oT 23, oT 24, oT 25, oT 26, oF 16, oT 27, oT 28] (Mem w0 (.blk b1 [.string f_0, vI f_1, vI f_2] 55 :: .blk b5 [.slice A10 x7.length c11, vI x8] 45 :: orow A10 x7.length c11 5 1 y12 :: .blk b53 [.slice A62 x51.length c55, vI x60] 40 :: orow A62 x51.length c55 4 1 y63 :: Fz F W :: cs)) (by kernel_rfl) (by kernel_rfl) (by kernel_rfl) (by kernel_rfl) (by kernel_rfl) (fun _ d _ _ _ h => by cases d <;> exact h) (M' := Mem w0 (.blk b1 [.string f_0, vI f_1, vI f_2] 55 :: .blk b5 [.slice A10 x7.length c11, vI x8] 45 :: orow A10 x7.length c11 5 1 y12 :: .blk b16 [.slice A25 x14.length c18, vI x23] 136 :: orow A25 x14.length c18 5 1 y26 :: .blk b53 [.slice A62 x51.length c55, vI x60] 40 :: orow A62 x51.length c55 4 1 y63 :: Fz F W :: cs)) (fun w_ hM => ⟨hM.drew, hM.drew.sub (.cons_cons _ (.cons_cons _ (.cons_cons _ (.cons _ (.cons _ (.cons_cons _ (.cons_cons _ (.cons_cons _ (.refl _)))))))))⟩) ?_
     refine ops_load (d := some 82) (an := [.v (.string f_0), .v (vI f_1), .v (vI f_2)]) (evs := [.load ⟨b1, 0, none⟩ (.string f_0), .load ⟨b1, 1, none⟩ (vI f_1), .load ⟨b1, 2, none⟩ (vI f_2)]) (v := .agg #[.string f_0, vI f_1, vI f_2]) ⟨by kernel_rfl⟩ (fun w_ hM => ⟨hM.cell 0 rfl rfl, hM.cell 0 rfl rfl, hM.cell 0 rfl rfl, rfl⟩) ?_
     obtain ⟨x66, hv67, hp⟩ := obind hp
     refine ops_callI (σ := Unit) (d := some 83) (f := 41) (args := #[.agg #[.string f_0, vI f_1, vI f_2]]) (v := (fun _ => vI x66)) (I := (fun _ => True)) (M' := (fun _ => Mem w0 (.blk b1 [.string f_0, vI f_1, vI f_2] 55 :: .blk b5 [.slice A10 x7.length c11, vI x8] 45 :: orow A10 x7.length c11 5 1 y12 :: .blk b16 [.slice A25 x14.length c18, vI x23] 136 :: orow A25 x14.length c18 5 1 y26 :: .blk b53 [.slice A62 x51.length c55, vI x60] 40 :: orow A62 x51.length c55 4 1 y63 :: Fz F W :: cs))) ⟨by kernel_rfl⟩ (fun w_ hM hS => (quant_Check_ok w0 w_ (.blk b1 [.string f_0, vI f_1, vI f_2] 55 :: .blk b5 [.slice A10 x7.length c11, vI x8] 45 :: orow A10 x7.length c11 5 1 y12 :: .blk b16 [.slice A25 x14.length c18, vI x23] 136 :: orow A25 x14.length c18 5 1 y26 :: .blk b53 [.slice A62 x51.length c55, vI x60] 40 :: orow A62 x51.length c55 4 1 y63 :: cs) F W f_0 f_1 f_2 (hM.pick 8 [7, 0, 1, 2, 3, 4, 5, 6] (by kernel_rfl) (by decide) rfl)  x66 hv67).mono (by rintro e w' ⟨-, rfl, h'⟩; have h' : Mem w0 (.blk b1 [.string f_0, vI f_1, vI f_2] 55 :: .blk b5 [.slice A10 x7.length c11, vI x8] 45 :: orow A10 x7.length c11 5 1 y12 :: .blk b16 [.slice A25 x14.length c18, vI x23] 136 :: orow A25 x14.length c18 5 1 y26 :: .blk b53 [.slice A62 x51.length c55, vI x60] 40 :: orow A62 x51.length c55 4 1 y63 :: Fz F W :: cs) w' := (h'.pick 8 [1, 2, 3, 4, 5, 6, 7, 0] (by kernel_rfl) (by decide) rfl); exact ⟨(), trivial, rfl, h', (by exact h'.sub (.cons_cons _ (.cons_cons _ (.cons_cons _ (.cons _ (.cons _ (.cons_cons _ (.cons_cons _ (.cons_cons _ (.refl _))))))))))⟩)) ?_
     rintro _ -
     refine ops_conv (l' := [(83, vI x66), (82, .agg #[.string f_0, vI f_1, vI f_2]), (1, vI v), (3, vP b1 0), (7, vP b5 0), (8, vI x6), (9, vP b16 0), (10, vI x21), (11, vI x22), (12, vP b53 0), (13, vU i65), (14, vI x59)]) (M' := Mem w0 (.blk b1 [.string f_0, vI f_1, vI f_2] 55 :: .blk b5 [.slice A10 x7.length c11, vI x8] 45 :: orow A10 x7.length c11 5 1 y12 :: .blk b16 [.slice A25 x14.length c18, vI x23] 136 :: orow A25 x14.length c18 5 1 y26 :: .blk b53 [.slice A62 x51.length c55, vI x60] 40 :: orow A62 x51.length c55 4 1 y63 :: Fz F W :: cs)) rfl (fun _ h => h) ?_
     refine oR [oT 2, oT 3] [(85, .bool (!(x66 == 0))), (1, vI v), (3, vP b1 0), (7, vP b5 0), (8, vI x6), (9, vP b16 0), (10, vI x21), (11, vI x22), (12, vP b53 0), (13, vU i65), (14, vI x59)] [85, 1, 3, 7, 8, 9, 10, 11, 12, 13, 14] (by kernel_rfl) ?_
     refine ops_bool (t := !(x66 == 0)) (l1 := [(85, .bool true), (1, vI v), (3, vP b1 0), (7, vP b5 0), (8, vI x6), (9, vP b16 0), (10, vI x21), (11, vI x22), (12, vP b53 0), (13, vU i65), (14, vI x59)]) (l2 := [(85, .bool false), (1, vI v), (3, vP b1 0), (7, vP b5 0), (8, vI x6), (9, vP b16 0), (10, vI x21), (11, vI x22), (12, vP b53 0), (13, vU i65), (14, vI x59)]) (fun h => by rw [h]) (fun h => by rw [h]) (fun hc68 => ?_) (fun hc68 => ?_)
     · --
      have hp := cnd_t hc68 hp
      refine oR [oT 4, oT 5, oT 6, oT 7, oT 8, oT 9, oT 10, oT 11, oT 12, oT 13, oT 14, oT 15, oT 17, oT 18, oT 19, oT 20, oT 21, oT 22, oT 23, oT 24, oT 25, oT 26, oF 16, oT 27, oT 28] [(110, .bool true), (1, vI v), (3, vP b1 0), (7, vP b5 0), (8, vI x6)] [110, 1, 3, 7, 8] (by kernel_rfl) ?_
      refine ops_nil ?_
      refine fin_then ?_
      refine st_true rfl ?_
      refine st_seq ?_
      refine st_region [oF 0] (by rfl) ?_
      refine oR [oF 0] [(6, .bool false)] [6] (by kernel_rfl) ?_
      refine ops_nil ?_
      refine fin_then ?_
      refine st_ret ?_
      refine fin_ret_then ?_
      have hq_ := Option.some.inj hp
      have hr0_ := hq_
      subst hr0_
      refine fin_ret [.tmp 6] [.bool false] rfl rfl (fun w_ hM => (.tmp rfl .nil)) (fun w_ hM => ?_)
      exact ⟨trivial, rfl, hM.pick 8 [7] (by kernel_rfl) (by decide) rfl⟩
     · --
      have hp := cnd_f hc68 hp
      refine oR [oT 4, oT 5, oT 6, oT 7, oT 8] [(90, .bool (!(x22 == x59))), (1, vI v), (3, vP b1 0), (7, vP b5 0), (8, vI x6), (9, vP b16 0), (10, vI x21), (12, vP b53 0), (13, vU i65)] [90, 1, 3, 7, 8, 9, 10, 12, 13] (by kernel_rfl) ?_
      refine ops_bool (t := !(x22 == x59)) (l1 := [(90, .bool true), (1, vI v), (3, vP b1 0), (7, vP b5 0), (8, vI x6), (9, vP b16 0), (10, vI x21), (12, vP b53 0), (13, vU i65)]) (l2 := [(90, .bool false), (1, vI v), (3, vP b1 0), (7, vP b5 0), (8, vI x6), (9, vP b16 0), (10, vI x21), (12, vP b53 0), (13, vU i65)]) (fun h => by rw [h]) (fun h => by rw [h]) (fun hc69 => ?_) (fun hc69 => ?_)
      · --
       have hp := cnd_t hc69 hp
       refine oR [oT 9, oT 10, oT 11, oT 12, oT 13, oT 14, oT 15, oT 17, oT 18, oT 19, oT 20, oT 21, oT 22, oT 23, oT 24, oT 25, oT 26, oF 16, oT 27, oT 28] [(110, .bool true), (1, vI v), (3, vP b1 0), (7, vP b5 0), (8, vI x6)] [110, 1, 3, 7, 8] (by kernel_rfl) ?_
       refine ops_nil ?_
       refine fin_then ?_
       refine st_true rfl ?_
       refine st_seq ?_
       refine st_region [oF 0] (by rfl) ?_
       refine oR [oF 0] [(6, .bool false)] [6] (by kernel_rfl) ?_
       refine ops_nil ?_
       refine fin_then ?_
       refine st_ret ?_
       refine fin_ret_then ?_
       have hq_ := Option.some.inj hp
       have hr0_ := hq_
       subst hr0_
       refine fin_ret [.tmp 6] [.bool false] rfl rfl (fun w_ hM => (.tmp rfl .nil)) (fun w_ hM => ?_)
       exact ⟨trivial, rfl, hM.pick 8 [7] (by kernel_rfl) (by decide) rfl⟩
      · --
       have hp := cnd_f hc69 hp
       refine oR [oT 9, oT 10, oT 11, oT 12, oT 13, oT 14] [(96, .bool (!(x21 == IntKind.i64.wrap i65))), (1, vI v), (3, vP b1 0), (7, vP b5 0), (8, vI x6), (9, vP b16 0), (12, vP b53 0)] [96, 1, 3, 7, 8, 9, 12] (by kernel_rfl) ?_
       refine ops_bool (t := !(x21 == IntKind.i64.wrap i65)) (l1 := [(96, .bool true), (1, vI v), (3, vP b1 0), (7, vP b5 0), (8, vI x6), (9, vP b16 0), (12, vP b53 0)]) (l2 := [(96, .bool false), (1, vI v), (3, vP b1 0), (7, vP b5 0), (8, vI x6), (9, vP b16 0), (12, vP b53 0)]) (fun h => by rw [h]) (fun h => by rw [h]) (fun hc70 => ?_) (fun hc70 => ?_)
       · --
        have hp := cnd_t hc70 hp
        refine oR [oT 15, oT 17, oT 18, oT 19, oT 20, oT 21, oT 22, oT 23, oT 24, oT 25, oT 26, oF 16, oT 27, oT 28] [(110, .bool true), (1, vI v), (3, vP b1 0), (7, vP b5 0), (8, vI x6)] [110, 1, 3, 7, 8] (by kernel_rfl) ?_
        refine ops_nil ?_
        refine fin_then ?_
        refine st_true rfl ?_
        refine st_seq ?_
        refine st_region [oF 0] (by rfl) ?_
        refine oR [oF 0] [(6, .bool false)] [6] (by kernel_rfl) ?_
        refine ops_nil ?_
        refine fin_then ?_
        refine st_ret ?_
        refine fin_ret_then ?_
        have hq_ := Option.some.inj hp
        have hr0_ := hq_
        subst hr0_
        refine fin_ret [.tmp 6] [.bool false] rfl rfl (fun w_ hM => (.tmp rfl .nil)) (fun w_ hM => ?_)
        exact ⟨trivial, rfl, hM.pick 8 [7] (by kernel_rfl) (by decide) rfl⟩
       · --
        have hp := cnd_f hc70 hp
        refine oR [oT 15, oT 17, oT 18, oT 19] [(101, vP b53 0), (97, vP b16 0), (96, .bool false), (1, vI v), (3, vP b1 0), (7, vP b5 0), (8, vI x6), (12, vP b53 0)] [101, 97, 96, 1, 3, 7, 8, 12] (by kernel_rfl) ?_
        refine ops_load (d := some 102) (an := [.v (.slice A62 x51.length c55)]) (evs := [.load ⟨b53, 0, none⟩ (.slice A62 x51.length c55)]) (v := .slice A62 x51.length c55) ⟨by kernel_rfl⟩ (fun w_ hM => ⟨hM.cell 3 rfl rfl, rfl⟩) ?_
        refine oR [oT 21, oT 22, oT 23, oT 24] [(106, vP b53 1), (103, vI (x51.length : Int)), (97, vP b16 0), (96, .bool false), (1, vI v), (3, vP b1 0), (7, vP b5 0), (8, vI x6)] [106, 103, 97, 96, 1, 3, 7, 8] (by kernel_rfl) ?_
        refine ops_load (d := some 107) (an := [.v (vI x60)]) (evs := [.load ⟨b53, 1, none⟩ (vI x60)]) (v := vI x60) ⟨by kernel_rfl⟩ (fun w_ hM => ⟨hM.cell 3 rfl rfl, rfl⟩) ?_
        refine oR [oT 26] [(108, vI (IntKind.i64.wrap ((x51.length : Int) - x60))), (97, vP b16 0), (96, .bool false), (1, vI v), (3, vP b1 0), (7, vP b5 0), (8, vI x6)] [108, 97, 96, 1, 3, 7, 8] (by kernel_rfl) ?_
        obtain ⟨x71, hv72, hp⟩ := obind hp
        refine ops_callI (σ := (List Value)) (d := some 98) (f := 23) (args := #[vP b16 0]) (v := (fun x_ => match x_ with | y73 => vI x71)) (I := (fun x_ => match x_ with | y73 => (RepL (Rep.int .u8) F W x14 y73))) (M' := (fun x_ => match x_ with | y73 => Mem w0 (orow A25 x14.length c18 5 1 y73 :: .blk b1 [.string f_0, vI f_1, vI f_2] 55 :: .blk b5 [.slice A10 x7.length c11, vI x8] 45 :: orow A10 x7.length c11 5 1 y12 :: .blk b16 [.slice A25 x14.length c18, vI x23] 136 :: .blk b53 [.slice A62 x51.length c55, vI x60] 40 :: orow A62 x51.length c55 4 1 y63 :: Fz F W :: cs))) ⟨by kernel_rfl⟩ (fun w_ hM hS => (bits_Reader_Left_ok w0 w_ (.blk b1 [.string f_0, vI f_1, vI f_2] 55 :: .blk b5 [.slice A10 x7.length c11, vI x8] 45 :: orow A10 x7.length c11 5 1 y12 :: .blk b53 [.slice A62 x51.length c55, vI x60] 40 :: orow A62 x51.length c55 4 1 y63 :: cs) F W b16 A25 c18 x14 y26 x23 (hM.pick 8 [3, 4, 7, 0, 1, 2, 5, 6] (by kernel_rfl) (by decide) rfl) h27 x71 hv72).mono (by rintro e w' ⟨y73, h74, rfl, h'⟩; have h' : Mem w0 (orow A25 x14.length c18 5 1 y73 :: .blk b1 [.string f_0, vI f_1, vI f_2] 55 :: .blk b5 [.slice A10 x7.length c11, vI x8] 45 :: orow A10 x7.length c11 5 1 y12 :: .blk b16 [.slice A25 x14.length c18, vI x23] 136 :: .blk b53 [.slice A62 x51.length c55, vI x60] 40 :: orow A62 x51.length c55 4 1 y63 :: Fz F W :: cs) w' := (h'.pick 8 [1, 3, 4, 5, 0, 6, 7, 2] (by kernel_rfl) (by decide) rfl); exact ⟨y73, h74, rfl, h', (by exact h'.sub (.cons _ (.cons_cons _ (.cons_cons _ (.cons_cons _ (.cons _ (.cons_cons _ (.cons_cons _ (.cons_cons _ (.refl _))))))))))⟩)) ?_
        rintro y73 h74
        refine ops_conv (l' := [(98, vI x71), (108, vI (IntKind.i64.wrap ((x51.length : Int) - x60))), (97, vP b16 0), (96, .bool false), (1, vI v), (3, vP b1 0), (7, vP b5 0), (8, vI x6)]) (M' := Mem w0 (orow A25 x14.length c18 5 1 y73 :: .blk b1 [.string f_0, vI f_1, vI f_2] 55 :: .blk b5 [.slice A10 x7.length c11, vI x8] 45 :: orow A10 x7.length c11 5 1 y12 :: .blk b16 [.slice A25 x14.length c18, vI x23] 136 :: .blk b53 [.slice A62 x51.length c55, vI x60] 40 :: orow A62 x51.length c55 4 1 y63 :: Fz F W :: cs)) rfl (fun _ h => h) ?_
        refine oR [oT 27, oT 28] [(110, .bool (!(x71 == IntKind.i64.wrap ((x51.length : Int) - x60)))), (1, vI v), (3, vP b1 0), (7, vP b5 0), (8, vI x6)] [110, 1, 3, 7, 8] (by kernel_rfl) ?_
        refine ops_nil ?_
        refine fin_then ?_
        refine st_if (b := !(x71 == IntKind.i64.wrap ((x51.length : Int) - x60))) rfl (fun hc75 => ?_) (fun hc75 => ?_)
        · --
         have hp := cnd_t hc75 hp
         refine st_seq ?_
         refine st_region [oF 0] (by rfl) ?_
         refine oR [oF 0] [(6, .bool false)] [6] (by kernel_rfl) ?_
         refine ops_nil ?_
         refine fin_then ?_
         refine st_ret ?_
         refine fin_ret_then ?_
         have hq_ := Option.some.inj hp
         have hr0_ := hq_
         subst hr0_
         refine fin_ret [.tmp 6] [.bool false] rfl rfl (fun w_ hM => (.tmp rfl .nil)) (fun w_ hM => ?_)
         exact ⟨trivial, rfl, hM.pick 8 [7] (by kernel_rfl) (by decide) rfl⟩
        · --
         have hp := cnd_f hc75 hp
         refine st_skip ?_
         refine fin_then ?_
         refine st_seq ?_
         refine st_seq ?_
         refine st_region [oF 0, oF 1, oF 2, oF 3, oF 4] (by rfl) ?_
         refine oR [] [(1, vI v), (3, vP b1 0), (7, vP b5 0), (8, vI x6)] [1, 3, 7, 8] (by kernel_rfl) ?_
         refine ops_mem (d := some 111) (an := [.v (.string f_0), .v (vI f_1), .v (vI f_2)]) (evs := [.load ⟨b1, 0, none⟩ (.string f_0), .load ⟨b1, 1, none⟩ (vI f_1), .load ⟨b1, 2, none⟩ (vI f_2)]) (v := .agg #[.string f_0, vI f_1, vI f_2]) (M' := Mem w0 (orow A25 x14.length c18 5 1 y73 :: .blk b1 [.string f_0, vI f_1, vI f_2] 55 :: .blk b5 [.slice A10 x7.length c11, vI x8] 45 :: orow A10 x7.length c11 5 1 y12 :: .blk b16 [.slice A25 x14.length c18, vI x23] 136 :: .blk b53 [.slice A62 x51.length c55, vI x60] 40 :: orow A62 x51.length c55 4 1 y63 :: Fz F W :: cs)) ⟨by kernel_rfl⟩ (fun w_ hM hS => ⟨w_, ⟨hM.cell 1 rfl rfl, hM.cell 1 rfl rfl, hM.cell 1 rfl rfl, rfl⟩, hM, trivial⟩) ?_
         refine oR [oF 1] [(112, vI v), (111, .agg #[.string f_0, vI f_1, vI f_2]), (1, vI v), (3, vP b1 0), (7, vP b5 0), (8, vI x6)] [112, 111, 1, 3, 7, 8] (by kernel_rfl) ?_
         obtain ⟨x76, hv77, hp⟩ := obind hp
         refine ops_callI (σ := Unit) (d := some 113) (f := 39) (args := #[.agg #[.string f_0, vI f_1, vI f_2], vI v]) (v := (fun _ => vI x76)) (I := (fun _ => True)) (M' := (fun _ => Mem w0 (orow A25 x14.length c18 5 1 y73 :: .blk b1 [.string f_0, vI f_1, vI f_2] 55 :: .blk b5 [.slice A10 x7.length c11, vI x8] 45 :: orow A10 x7.length c11 5 1 y12 :: .blk b16 [.slice A25 x14.length c18, vI x23] 136 :: .blk b53 [.slice A62 x51.length c55, vI x60] 40 :: orow A62 x51.length c55 4 1 y63 :: Fz F W :: cs))) ⟨by kernel_rfl⟩ (fun w_ hM hS => (tourref1_Fitted_ok w0 w_ (orow A25 x14.length c18 5 1 y73 :: .blk b1 [.string f_0, vI f_1, vI f_2] 55 :: .blk b5 [.slice A10 x7.length c11, vI x8] 45 :: orow A10 x7.length c11 5 1 y12 :: .blk b16 [.slice A25 x14.length c18, vI x23] 136 :: .blk b53 [.slice A62 x51.length c55, vI x60] 40 :: orow A62 x51.length c55 4 1 y63 :: cs) F W f_0 f_1 f_2 v (hM.pick 8 [7, 0, 1, 2, 3, 4, 5, 6] (by kernel_rfl) (by decide) rfl)  x76 hv77).mono (by rintro e w' ⟨-, rfl, h'⟩; have h' : Mem w0 (orow A25 x14.length c18 5 1 y73 :: .blk b1 [.string f_0, vI f_1, vI f_2] 55 :: .blk b5 [.slice A10 x7.length c11, vI x8] 45 :: orow A10 x7.length c11 5 1 y12 :: .blk b16 [.slice A25 x14.length c18, vI x23] 136 :: .blk b53 [.slice A62 x51.length c55, vI x60] 40 :: orow A62 x51.length c55 4 1 y63 :: Fz F W :: cs) w' := (h'.pick 8 [1, 2, 3, 4, 5, 6, 7, 0] (by kernel_rfl) (by decide) rfl); exact ⟨(), trivial, rfl, h', trivial⟩)) ?_
         rintro _ -
         refine ops_conv (l' := [(113, vI x76), (112, vI v), (111, .agg #[.string f_0, vI f_1, vI f_2]), (1, vI v), (3, vP b1 0), (7, vP b5 0), (8, vI x6)]) (M' := Mem w0 (orow A25 x14.length c18 5 1 y73 :: .blk b1 [.string f_0, vI f_1, vI f_2] 55 :: .blk b5 [.slice A10 x7.length c11, vI x8] 45 :: orow A10 x7.length c11 5 1 y12 :: .blk b16 [.slice A25 x14.length c18, vI x23] 136 :: .blk b53 [.slice A62 x51.length c55, vI x60] 40 :: orow A62 x51.length c55 4 1 y63 :: Fz F W :: cs)) rfl (fun _ h => h) ?_
         refine oR [oF 3, oF 4] [(115, .bool (!(x76 == v))), (1, vI v), (3, vP b1 0), (7, vP b5 0), (8, vI x6)] [115, 1, 3, 7, 8] (by kernel_rfl) ?_
         refine ops_nil ?_
         refine fin_then ?_
         refine st_if (b := !(x76 == v)) rfl (fun hc78 => ?_) (fun hc78 => ?_)
         · --
          have hp := cnd_t hc78 hp
          refine st_join1 (σ := Bool) (L := fun x_ => match x_ with | t79 => [(6, .bool t79)]) (N := fun x_ => match x_ with | t79 => Mem w0 (Fz F W :: cs)) (I := fun x_ => match x_ with | t79 => (tourlaw1_QuantFields_j3 t79 = some t9001)) ?_ ?_
          · --
           rintro t79 hp
           refine st_conv (l' := [(6, .bool t79)]) (M' := Mem w0 (Fz F W :: cs)) rfl (fun _ h => h) ?_
           unfold tourlaw1_QuantFields_j3 at hp
           refine st_ret ?_
           refine fin_ret_then ?_
           have hq_ := Option.some.inj hp
           have hr0_ := hq_
           subst hr0_
           refine fin_ret [.tmp 6] [.bool t79] rfl rfl (fun w_ hM => (.tmp rfl .nil)) (fun w_ hM => ?_)
           exact ⟨trivial, rfl, hM⟩
          · --
           intro HJ3
           refine st_seq ?_
           refine st_region [oF 0, oF 1, oF 2, oF 3, oF 4, oF 5, oF 6] (by rfl) ?_
           refine oR [oF 0, oF 1, oF 2] [(118, .bool (x6 == 1)), (7, vP b5 0)] [118, 7] (by kernel_rfl) ?_
           refine ops_bool (t := (x6 == 1)) (l1 := [(118, .bool true), (7, vP b5 0)]) (l2 := [(118, .bool false), (7, vP b5 0)]) (fun h => by rw [h]) (fun h => by rw [h]) (fun hc80 => ?_) (fun hc80 => ?_)
           · --
            have hp := cnd_t hc80 hp
            obtain ⟨_, hv81, hp⟩ := obind hp
            refine ops_callI (σ := (List Value)) (d := some 119) (f := 31) (args := #[vP b5 0]) (v := (fun x_ => match x_ with | y82 => vI x8)) (I := (fun x_ => match x_ with | y82 => (RepL (Rep.int .u8) F W x7 y82))) (M' := (fun x_ => match x_ with | y82 => Mem w0 (orow A10 x7.length c11 5 1 y82 :: orow A25 x14.length c18 5 1 y73 :: .blk b1 [.string f_0, vI f_1, vI f_2] 55 :: .blk b5 [.slice A10 x7.length c11, vI x8] 45 :: .blk b16 [.slice A25 x14.length c18, vI x23] 136 :: .blk b53 [.slice A62 x51.length c55, vI x60] 40 :: orow A62 x51.length c55 4 1 y63 :: Fz F W :: cs))) ⟨by kernel_rfl⟩ (fun w_ hM hS => (bits_Writer_Len_ok w0 w_ (orow A25 x14.length c18 5 1 y73 :: .blk b1 [.string f_0, vI f_1, vI f_2] 55 :: .blk b16 [.slice A25 x14.length c18, vI x23] 136 :: .blk b53 [.slice A62 x51.length c55, vI x60] 40 :: orow A62 x51.length c55 4 1 y63 :: cs) F W b5 A10 c11 x7 y12 x8 (hM.pick 8 [2, 3, 7, 0, 1, 4, 5, 6] (by kernel_rfl) (by decide) rfl) h13  hv81).mono (by rintro e w' ⟨y82, h83, rfl, h'⟩; have h' : Mem w0 (orow A10 x7.length c11 5 1 y82 :: orow A25 x14.length c18 5 1 y73 :: .blk b1 [.string f_0, vI f_1, vI f_2] 55 :: .blk b5 [.slice A10 x7.length c11, vI x8] 45 :: .blk b16 [.slice A25 x14.length c18, vI x23] 136 :: .blk b53 [.slice A62 x51.length c55, vI x60] 40 :: orow A62 x51.length c55 4 1 y63 :: Fz F W :: cs) w' := (h'.pick 8 [1, 3, 4, 0, 5, 6, 7, 2] (by kernel_rfl) (by decide) rfl); exact ⟨y82, h83, rfl, h', trivial⟩)) ?_
            rintro y82 h83
            refine ops_conv (l' := [(119, vI x8), (118, .bool true), (7, vP b5 0)]) (M' := Mem w0 (orow A10 x7.length c11 5 1 y82 :: orow A25 x14.length c18 5 1 y73 :: .blk b1 [.string f_0, vI f_1, vI f_2] 55 :: .blk b5 [.slice A10 x7.length c11, vI x8] 45 :: .blk b16 [.slice A25 x14.length c18, vI x23] 136 :: .blk b53 [.slice A62 x51.length c55, vI x60] 40 :: orow A62 x51.length c55 4 1 y63 :: Fz F W :: cs)) rfl (fun _ h => h) ?_
            refine oR [oF 4, oF 5, oF 6] [(6, .bool (x8 == 0))] [6] (by kernel_rfl) ?_
            refine ops_nil ?_
            exact fin_join HJ3 (x8 == 0) hp (look_has ⟨rfl, trivial⟩) (fun w_ hM => hM.pick 8 [7] (by kernel_rfl) (by decide) rfl)
           · --
            have hp := cnd_f hc80 hp
            refine oR [oF 3, oF 4, oF 5, oF 6] [(6, .bool false)] [6] (by kernel_rfl) ?_
            refine ops_nil ?_
            exact fin_join HJ3 false hp (look_has ⟨rfl, trivial⟩) (fun w_ hM => hM.pick 8 [7] (by kernel_rfl) (by decide) rfl)
         · --
          have hp := cnd_f hc78 hp
          refine st_skip ?_
          refine fin_then ?_
          refine st_seq ?_
          refine st_region [oF 0, oF 1, oF 2] (by rfl) ?_
          refine oR [oF 0] [(122, .agg #[.slice none 0 0, vI 0]), (1, vI v), (3, vP b1 0), (7, vP b5 0), (8, vI x6)] [122, 1, 3, 7, 8] (by kernel_rfl) ?_
          refine ops_new (d := some 123) (o := .cells #[.slice none 0 0, vI 0] 40) (v := fun b84 => vP b84 0) (M' := fun b84 => Mem w0 (.blk b84 [.slice none 0 0, vI 0] 40 :: orow A25 x14.length c18 5 1 y73 :: .blk b1 [.string f_0, vI f_1, vI f_2] 55 :: .blk b5 [.slice A10 x7.length c11, vI x8] 45 :: orow A10 x7.length c11 5 1 y12 :: .blk b16 [.slice A25 x14.length c18, vI x23] 136 :: .blk b53 [.slice A62 x51.length c55, vI x60] 40 :: orow A62 x51.length c55 4 1 y63 :: Fz F W :: cs)) (fun b84 => ⟨by kernel_rfl⟩) (fun w_ hM hS => ⟨hM.blk [.slice none 0 0, vI 0] 40, trivial⟩) (fun b84 => ?_)
          refine oR [oF 2] [(15, vP b84 0), (1, vI v), (3, vP b1 0), (7, vP b5 0), (8, vI x6)] [15, 1, 3, 7, 8] (by kernel_rfl) ?_
          refine ops_nil ?_
          refine fin_then ?_
          refine st_seq ?_
          refine st_region [oF 0, oF 1, oF 2, oF 3, oF 4, oF 5, oF 6, oF 7, oF 8] (by rfl) ?_
          refine oR [oF 0, oF 1, oF 2] [(126, vP b1 2), (125, vI v), (124, vP b84 0), (15, vP b84 0), (3, vP b1 0), (7, vP b5 0), (8, vI x6)] [126, 125, 124, 15, 3, 7, 8] (by kernel_rfl) ?_
          refine ops_mem (d := some 127) (an := [.v (vI f_2)]) (evs := [.load ⟨b1, 2, none⟩ (vI f_2)]) (v := vI f_2) (M' := Mem w0 (.blk b84 [.slice none 0 0, vI 0] 40 :: orow A25 x14.length c18 5 1 y73 :: .blk b1 [.string f_0, vI f_1, vI f_2] 55 :: .blk b5 [.slice A10 x7.length c11, vI x8] 45 :: orow A10 x7.length c11 5 1 y12 :: .blk b16 [.slice A25 x14.length c18, vI x23] 136 :: .blk b53 [.slice A62 x51.length c55, vI x60] 40 :: orow A62 x51.length c55 4 1 y63 :: Fz F W :: cs)) ⟨by kernel_rfl⟩ (fun w_ hM hS => ⟨w_, ⟨hM.cell 2 rfl rfl, rfl⟩, hM, trivial⟩) ?_
          refine oR [oF 4, oF 5, oF 6] [(130, vP b1 1), (129, vU (IntKind.u64.wrap (IntKind.i64.wrap (v - f_2)))), (124, vP b84 0), (15, vP b84 0), (3, vP b1 0), (7, vP b5 0), (8, vI x6)] [130, 129, 124, 15, 3, 7, 8] (by kernel_rfl) ?_
          refine ops_mem (d := some 131) (an := [.v (vI f_1)]) (evs := [.load ⟨b1, 1, none⟩ (vI f_1)]) (v := vI f_1) (M' := Mem w0 (.blk b84 [.slice none 0 0, vI 0] 40 :: orow A25 x14.length c18 5 1 y73 :: .blk b1 [.string f_0, vI f_1, vI f_2] 55 :: .blk b5 [.slice A10 x7.length c11, vI x8] 45 :: orow A10 x7.length c11 5 1 y12 :: .blk b16 [.slice A25 x14.length c18, vI x23] 136 :: .blk b53 [.slice A62 x51.length c55, vI x60] 40 :: orow A62 x51.length c55 4 1 y63 :: Fz F W :: cs)) ⟨by kernel_rfl⟩ (fun w_ hM hS => ⟨w_, ⟨hM.cell 2 rfl rfl, rfl⟩, hM, trivial⟩) ?_
          refine oR [] [(131, vI f_1), (129, vU (IntKind.u64.wrap (IntKind.i64.wrap (v - f_2)))), (124, vP b84 0), (15, vP b84 0), (3, vP b1 0), (7, vP b5 0), (8, vI x6)] [131, 129, 124, 15, 3, 7, 8] (by kernel_rfl) ?_
          refine ops_conv (l' := [(131, vI f_1), (129, vU (IntKind.u64.wrap (IntKind.i64.wrap (v - f_2)))), (124, vP b84 0), (15, vP b84 0), (3, vP b1 0), (7, vP b5 0), (8, vI x6)]) (M' := Mem w0 (orow none ([] : List Bool).length 0 4 1 [] :: .blk b84 [.slice none 0 0, vI 0] 40 :: orow A25 x14.length c18 5 1 y73 :: .blk b1 [.string f_0, vI f_1, vI f_2] 55 :: .blk b5 [.slice A10 x7.length c11, vI x8] 45 :: orow A10 x7.length c11 5 1 y12 :: .blk b16 [.slice A25 x14.length c18, vI x23] 136 :: .blk b53 [.slice A62 x51.length c55, vI x60] 40 :: orow A62 x51.length c55 4 1 y63 :: Fz F W :: cs)) rfl (fun w_ h => h.onil none 4 1) ?_
          refine ops_conv (l' := [(131, vI f_1), (129, vU (IntKind.u64.wrap (IntKind.i64.wrap (v - f_2)))), (124, vP b84 0), (15, vP b84 0), (3, vP b1 0), (7, vP b5 0), (8, vI x6)]) (M' := Mem w0 (orow none ([] : List Bool).length 0 4 1 [] :: .blk b84 [.slice none ([] : List Bool).length 0, vI 0] 40 :: orow A25 x14.length c18 5 1 y73 :: .blk b1 [.string f_0, vI f_1, vI f_2] 55 :: .blk b5 [.slice A10 x7.length c11, vI x8] 45 :: orow A10 x7.length c11 5 1 y12 :: .blk b16 [.slice A25 x14.length c18, vI x23] 136 :: .blk b53 [.slice A62 x51.length c55, vI x60] 40 :: orow A62 x51.length c55 4 1 y63 :: Fz F W :: cs)) rfl (fun _ h => h) ?_
          obtain ⟨x85, x86, hv87, hp⟩ := obind2 hp
          refine ops_callI (σ := (Option Addr) × Nat × (List Value)) (d := some 132) (f := 26) (args := #[vP b84 0, vU (IntKind.u64.wrap (IntKind.i64.wrap (v - f_2))), vI f_1]) (v := (fun x_ => match x_ with | (A88, c89, y90) => vI x85)) (I := (fun x_ => match x_ with | (A88, c89, y90) => (RepL Rep.bool F W x86 y90))) (M' := (fun x_ => match x_ with | (A88, c89, y90) => Mem w0 (orow A88 x86.length c89 4 1 y90 :: .blk b84 [.slice A88 x86.length c89, vI 0] 40 :: orow A25 x14.length c18 5 1 y73 :: .blk b1 [.string f_0, vI f_1, vI f_2] 55 :: .blk b5 [.slice A10 x7.length c11, vI x8] 45 :: orow A10 x7.length c11 5 1 y12 :: .blk b16 [.slice A25 x14.length c18, vI x23] 136 :: .blk b53 [.slice A62 x51.length c55, vI x60] 40 :: orow A62 x51.length c55 4 1 y63 :: Fz F W :: cs))) ⟨by kernel_rfl⟩ (fun w_ hM hS => (tourref1_Bits_Add_ok w0 w_ (orow A25 x14.length c18 5 1 y73 :: .blk b1 [.string f_0, vI f_1, vI f_2] 55 :: .blk b5 [.slice A10 x7.length c11, vI x8] 45 :: orow A10 x7.length c11 5 1 y12 :: .blk b16 [.slice A25 x14.length c18, vI x23] 136 :: .blk b53 [.slice A62 x51.length c55, vI x60] 40 :: orow A62 x51.length c55 4 1 y63 :: cs) F W b84 none 0 ([] : List Bool) [] 0 (IntKind.u64.wrap (IntKind.i64.wrap (v - f_2))) f_1 (hM.pick 10 [1, 0, 9, 2, 3, 4, 5, 6, 7, 8] (by kernel_rfl) (by decide) rfl) (RepL.nil (R := Rep.bool)) x85 x86 hv87).mono (by rintro e w' ⟨A88, c89, y90, h91, rfl, h'⟩; have h' : Mem w0 (orow A88 x86.length c89 4 1 y90 :: .blk b84 [.slice A88 x86.length c89, vI 0] 40 :: orow A25 x14.length c18 5 1 y73 :: .blk b1 [.string f_0, vI f_1, vI f_2] 55 :: .blk b5 [.slice A10 x7.length c11, vI x8] 45 :: orow A10 x7.length c11 5 1 y12 :: .blk b16 [.slice A25 x14.length c18, vI x23] 136 :: .blk b53 [.slice A62 x51.length c55, vI x60] 40 :: orow A62 x51.length c55 4 1 y63 :: Fz F W :: cs) w' := (h'.pick 10 [1, 0, 3, 4, 5, 6, 7, 8, 9, 2] (by kernel_rfl) (by decide) rfl); exact ⟨(A88, c89, y90), h91, rfl, h', trivial⟩)) ?_
          rintro ⟨A88, c89, y90⟩ h91
          refine ops_conv (l' := [(132, vI x85), (131, vI f_1), (129, vU (IntKind.u64.wrap (IntKind.i64.wrap (v - f_2)))), (124, vP b84 0), (15, vP b84 0), (3, vP b1 0), (7, vP b5 0), (8, vI x6)]) (M' := Mem w0 (orow A88 x86.length c89 4 1 y90 :: .blk b84 [.slice A88 x86.length c89, vI 0] 40 :: orow A25 x14.length c18 5 1 y73 :: .blk b1 [.string f_0, vI f_1, vI f_2] 55 :: .blk b5 [.slice A10 x7.length c11, vI x8] 45 :: orow A10 x7.length c11 5 1 y12 :: .blk b16 [.slice A25 x14.length c18, vI x23] 136 :: .blk b53 [.slice A62 x51.length c55, vI x60] 40 :: orow A62 x51.length c55 4 1 y63 :: Fz F W :: cs)) rfl (fun _ h => h) ?_
          refine oR [] [(15, vP b84 0), (3, vP b1 0), (7, vP b5 0), (8, vI x6)] [15, 3, 7, 8] (by kernel_rfl) ?_
          refine ops_nil ?_
          refine fin_then ?_
          refine st_join1 (σ := Bool) (L := fun x_ => match x_ with | t92 => [(6, .bool t92)]) (N := fun x_ => match x_ with | t92 => Mem w0 (Fz F W :: cs)) (I := fun x_ => match x_ with | t92 => (tourlaw1_QuantFields_j4 t92 = some t9001)) ?_ ?_
          · --
           rintro t92 hp
           refine st_conv (l' := [(6, .bool t92)]) (M' := Mem w0 (Fz F W :: cs)) rfl (fun _ h => h) ?_
           unfold tourlaw1_QuantFields_j4 at hp
           refine st_ret ?_
           have hq_ := Option.some.inj hp
           have hr0_ := hq_
           subst hr0_
           refine fin_ret [.tmp 6] [.bool t92] rfl rfl (fun w_ hM => (.tmp rfl .nil)) (fun w_ hM => ?_)
           exact ⟨trivial, rfl, hM⟩
          · --
           intro HJ4
           refine st_seq ?_
           refine st_region_fast tourlaw1_QuantFields__t1 [oT 0, oT 1, oT 2, oT 4, oT 5, oF 3, oT 6, oT 7, oT 8, oT 10, oF 9, oF 11, oF 12, oT 13, oT 14] (Mem w0 (orow A25 x14.length c18 5 1 y73 :: .blk b1 [.string f_0, vI f_1, vI f_2] 55 :: .blk b16 [.slice A25 x14.length c18, vI x23] 136 :: .blk b53 [.slice A62 x51.length c55, vI x60] 40 :: orow A62 x51.length c55 4 1 y63 :: Fz F W :: cs)) (by kernel_rfl) (by kernel_rfl) (by kernel_rfl) (by kernel_rfl) (by kernel_rfl) (fun _ d _ _ _ h => by cases d <;> exact h) (M' := Mem w0 (orow A88 x86.length c89 4 1 y90 :: .blk b84 [.slice A88 x86.length c89, vI 0] 40 :: orow A25 x14.length c18 5 1 y73 :: .blk b1 [.string f_0, vI f_1, vI f_2] 55 :: .blk b5 [.slice A10 x7.length c11, vI x8] 45 :: orow A10 x7.length c11 5 1 y12 :: .blk b16 [.slice A25 x14.length c18, vI x23] 136 :: .blk b53 [.slice A62 x51.length c55, vI x60] 40 :: orow A62 x51.length c55 4 1 y63 :: Fz F W :: cs)) (fun w_ hM => ⟨hM.drew, hM.drew.sub (.cons _ (.cons _ (.cons_cons _ (.cons_cons _ (.cons _ (.cons _ (.cons_cons _ (.cons_cons _ (.cons_cons _ (.cons_cons _ (.refl _)))))))))))⟩) ?_
           refine oR [oT 0, oT 1, oT 2] [(135, .bool (x6 == 0)), (15, vP b84 0), (3, vP b1 0), (7, vP b5 0)] [135, 15, 3, 7] (by kernel_rfl) ?_
           refine ops_bool (t := (x6 == 0)) (l1 := [(135, .bool true), (15, vP b84 0), (3, vP b1 0), (7, vP b5 0)]) (l2 := [(135, .bool false), (15, vP b84 0), (3, vP b1 0), (7, vP b5 0)]) (fun h => by rw [h]) (fun h => by rw [h]) (fun hc93 => ?_) (fun hc93 => ?_)
           · --
            have hp := cnd_t hc93 hp
            refine oR [oT 4] [(137, vP b1 1), (135, .bool true), (15, vP b84 0), (7, vP b5 0)] [137, 135, 15, 7] (by kernel_rfl) ?_
            refine ops_load (d := some 138) (an := [.v (vI f_1)]) (evs := [.load ⟨b1, 1, none⟩ (vI f_1)]) (v := vI f_1) ⟨by kernel_rfl⟩ (fun w_ hM => ⟨hM.cell 1 rfl rfl, rfl⟩) ?_
            refine oR [] [(138, vI f_1), (135, .bool true), (15, vP b84 0), (7, vP b5 0)] [138, 135, 15, 7] (by kernel_rfl) ?_
            obtain ⟨_, hv94, hp⟩ := obind hp
            refine ops_callI (σ := (List Value)) (d := some 136) (f := 31) (args := #[vP b5 0]) (v := (fun x_ => match x_ with | y95 => vI x8)) (I := (fun x_ => match x_ with | y95 => (RepL (Rep.int .u8) F W x7 y95))) (M' := (fun x_ => match x_ with | y95 => Mem w0 (orow A10 x7.length c11 5 1 y95 :: orow A88 x86.length c89 4 1 y90 :: .blk b84 [.slice A88 x86.length c89, vI 0] 40 :: orow A25 x14.length c18 5 1 y73 :: .blk b1 [.string f_0, vI f_1, vI f_2] 55 :: .blk b5 [.slice A10 x7.length c11, vI x8] 45 :: .blk b16 [.slice A25 x14.length c18, vI x23] 136 :: .blk b53 [.slice A62 x51.length c55, vI x60] 40 :: orow A62 x51.length c55 4 1 y63 :: Fz F W :: cs))) ⟨by kernel_rfl⟩ (fun w_ hM hS => (bits_Writer_Len_ok w0 w_ (orow A88 x86.length c89 4 1 y90 :: .blk b84 [.slice A88 x86.length c89, vI 0] 40 :: orow A25 x14.length c18 5 1 y73 :: .blk b1 [.string f_0, vI f_1, vI f_2] 55 :: .blk b16 [.slice A25 x14.length c18, vI x23] 136 :: .blk b53 [.slice A62 x51.length c55, vI x60] 40 :: orow A62 x51.length c55 4 1 y63 :: cs) F W b5 A10 c11 x7 y12 x8 (hM.pick 10 [4, 5, 9, 0, 1, 2, 3, 6, 7, 8] (by kernel_rfl) (by decide) rfl) h13  hv94).mono (by rintro e w' ⟨y95, h96, rfl, h'⟩; have h' : Mem w0 (orow A10 x7.length c11 5 1 y95 :: orow A88 x86.length c89 4 1 y90 :: .blk b84 [.slice A88 x86.length c89, vI 0] 40 :: orow A25 x14.length c18 5 1 y73 :: .blk b1 [.string f_0, vI f_1, vI f_2] 55 :: .blk b5 [.slice A10 x7.length c11, vI x8] 45 :: .blk b16 [.slice A25 x14.length c18, vI x23] 136 :: .blk b53 [.slice A62 x51.length c55, vI x60] 40 :: orow A62 x51.length c55 4 1 y63 :: Fz F W :: cs) w' := (h'.pick 10 [1, 3, 4, 5, 6, 0, 7, 8, 9, 2] (by kernel_rfl) (by decide) rfl); exact ⟨y95, h96, rfl, h', (by exact h'.sub (.cons _ (.cons _ (.cons _ (.cons_cons _ (.cons_cons _ (.cons _ (.cons_cons _ (.cons_cons _ (.cons_cons _ (.cons_cons _ (.refl _))))))))))))⟩)) ?_
            rintro y95 h96
            refine ops_conv (l' := [(136, vI x8), (138, vI f_1), (135, .bool true), (15, vP b84 0), (7, vP b5 0)]) (M' := Mem w0 (orow A10 x7.length c11 5 1 y95 :: orow A88 x86.length c89 4 1 y90 :: .blk b84 [.slice A88 x86.length c89, vI 0] 40 :: orow A25 x14.length c18 5 1 y73 :: .blk b1 [.string f_0, vI f_1, vI f_2] 55 :: .blk b5 [.slice A10 x7.length c11, vI x8] 45 :: .blk b16 [.slice A25 x14.length c18, vI x23] 136 :: .blk b53 [.slice A62 x51.length c55, vI x60] 40 :: orow A62 x51.length c55 4 1 y63 :: Fz F W :: cs)) rfl (fun _ h => h) ?_
            refine oR [oT 6, oT 7, oT 8] [(141, .bool (x8 == f_1)), (15, vP b84 0), (7, vP b5 0)] [141, 15, 7] (by kernel_rfl) ?_
            refine ops_bool (t := (x8 == f_1)) (l1 := [(141, .bool true), (15, vP b84 0), (7, vP b5 0)]) (l2 := [(141, .bool false), (15, vP b84 0), (7, vP b5 0)]) (fun h => by rw [h]) (fun h => by rw [h]) (fun hc97 => ?_) (fun hc97 => ?_)
            · --
             have hp := cnd_t hc97 hp
             refine oR [oT 10] [(143, vP b84 0), (141, .bool true), (7, vP b5 0)] [143, 141, 7] (by kernel_rfl) ?_
             obtain ⟨x98, hv99, hp⟩ := obind hp
             refine ops_callI (σ := (Option Addr) × Nat × (List Value) × (List Value)) (d := some 142) (f := 33) (args := #[vP b5 0]) (v := (fun x_ => match x_ with | (A100, c101, y102, y103) => .slice A100 x98.length c101)) (I := (fun x_ => match x_ with | (A100, c101, y102, y103) => (RepL (Rep.int .u8) F W x98 y102) ∧ (RepL (Rep.int .u8) F W x7 y103))) (M' := (fun x_ => match x_ with | (A100, c101, y102, y103) => Mem w0 (orow A100 x98.length c101 5 1 y102 :: orow A10 x7.length c11 5 1 y103 :: orow A88 x86.length c89 4 1 y90 :: .blk b84 [.slice A88 x86.length c89, vI 0] 40 :: orow A25 x14.length c18 5 1 y73 :: .blk b1 [.string f_0, vI f_1, vI f_2] 55 :: .blk b5 [.slice A10 x7.length c11, vI x8] 45 :: .blk b16 [.slice A25 x14.length c18, vI x23] 136 :: .blk b53 [.slice A62 x51.length c55, vI x60] 40 :: orow A62 x51.length c55 4 1 y63 :: Fz F W :: cs))) ⟨by kernel_rfl⟩ (fun w_ hM hS => (bits_Writer_Bytes_ok w0 w_ (orow A88 x86.length c89 4 1 y90 :: .blk b84 [.slice A88 x86.length c89, vI 0] 40 :: orow A25 x14.length c18 5 1 y73 :: .blk b1 [.string f_0, vI f_1, vI f_2] 55 :: .blk b16 [.slice A25 x14.length c18, vI x23] 136 :: .blk b53 [.slice A62 x51.length c55, vI x60] 40 :: orow A62 x51.length c55 4 1 y63 :: cs) F W b5 A10 c11 x7 y95 x8 (hM.pick 10 [5, 0, 9, 1, 2, 3, 4, 6, 7, 8] (by kernel_rfl) (by decide) rfl) h96 x98 hv99).mono (by rintro e w' ⟨A100, c101, y102, y103, ⟨h104, h105⟩, rfl, h'⟩; have h' : Mem w0 (orow A100 x98.length c101 5 1 y102 :: orow A10 x7.length c11 5 1 y103 :: orow A88 x86.length c89 4 1 y90 :: .blk b84 [.slice A88 x86.length c89, vI 0] 40 :: orow A25 x14.length c18 5 1 y73 :: .blk b1 [.string f_0, vI f_1, vI f_2] 55 :: .blk b5 [.slice A10 x7.length c11, vI x8] 45 :: .blk b16 [.slice A25 x14.length c18, vI x23] 136 :: .blk b53 [.slice A62 x51.length c55, vI x60] 40 :: orow A62 x51.length c55 4 1 y63 :: Fz F W :: cs) w' := (h'.pick 11 [0, 2, 4, 5, 6, 7, 1, 8, 9, 10, 3] (by kernel_rfl) (by decide) rfl); exact ⟨(A100, c101, y102, y103), ⟨h104, h105⟩, rfl, h', (by exact h'.sub (.cons _ (.cons _ (.cons _ (.cons _ (.cons_cons _ (.cons_cons _ (.cons _ (.cons_cons _ (.cons_cons _ (.cons_cons _ (.cons_cons _ (.refl _)))))))))))))⟩)) ?_
             rintro ⟨A100, c101, y102, y103⟩ ⟨h104, h105⟩
             refine ops_conv (l' := [(142, .slice A100 x98.length c101), (143, vP b84 0), (141, .bool true), (7, vP b5 0)]) (M' := Mem w0 (orow A100 x98.length c101 5 1 y102 :: orow A10 x7.length c11 5 1 y103 :: orow A88 x86.length c89 4 1 y90 :: .blk b84 [.slice A88 x86.length c89, vI 0] 40 :: orow A25 x14.length c18 5 1 y73 :: .blk b1 [.string f_0, vI f_1, vI f_2] 55 :: .blk b5 [.slice A10 x7.length c11, vI x8] 45 :: .blk b16 [.slice A25 x14.length c18, vI x23] 136 :: .blk b53 [.slice A62 x51.length c55, vI x60] 40 :: orow A62 x51.length c55 4 1 y63 :: Fz F W :: cs)) rfl (fun _ h => h) ?_
             refine oR [] [(142, .slice A100 x98.length c101), (143, vP b84 0), (141, .bool true)] [142, 143, 141] (by kernel_rfl) ?_
             obtain ⟨x106, hv107, hp⟩ := obind hp
             refine ops_callI (σ := (Option Addr) × Nat × (List Value) × (Option Addr) × (List Value)) (d := some 144) (f := 34) (args := #[vP b84 0]) (v := (fun x_ => match x_ with | (A108, c109, y110, A111, y112) => .slice A108 x106.length c109)) (I := (fun x_ => match x_ with | (A108, c109, y110, A111, y112) => (RepL (Rep.int .u8) F W x106 y110) ∧ (RepL Rep.bool F W x86 y112))) (M' := (fun x_ => match x_ with | (A108, c109, y110, A111, y112) => Mem w0 (orow A108 x106.length c109 5 1 y110 :: orow A111 x86.length c89 4 1 y112 :: orow A100 x98.length c101 5 1 y102 :: orow A10 x7.length c11 5 1 y103 :: .blk b84 [.slice A111 x86.length c89, vI 0] 40 :: orow A25 x14.length c18 5 1 y73 :: .blk b1 [.string f_0, vI f_1, vI f_2] 55 :: .blk b5 [.slice A10 x7.length c11, vI x8] 45 :: .blk b16 [.slice A25 x14.length c18, vI x23] 136 :: .blk b53 [.slice A62 x51.length c55, vI x60] 40 :: orow A62 x51.length c55 4 1 y63 :: Fz F W :: cs))) ⟨by kernel_rfl⟩ (fun w_ hM hS => (tourref1_Bits_Bytes_ok w0 w_ (orow A100 x98.length c101 5 1 y102 :: orow A10 x7.length c11 5 1 y103 :: orow A25 x14.length c18 5 1 y73 :: .blk b1 [.string f_0, vI f_1, vI f_2] 55 :: .blk b5 [.slice A10 x7.length c11, vI x8] 45 :: .blk b16 [.slice A25 x14.length c18, vI x23] 136 :: .blk b53 [.slice A62 x51.length c55, vI x60] 40 :: orow A62 x51.length c55 4 1 y63 :: cs) F W b84 A88 c89 x86 y90 0 (hM.pick 11 [3, 2, 10, 0, 1, 4, 5, 6, 7, 8, 9] (by kernel_rfl) (by decide) rfl) h91 x106 hv107).mono (by rintro e w' ⟨A108, c109, y110, A111, y112, ⟨h113, h114⟩, rfl, h'⟩; have h' : Mem w0 (orow A108 x106.length c109 5 1 y110 :: orow A111 x86.length c89 4 1 y112 :: orow A100 x98.length c101 5 1 y102 :: orow A10 x7.length c11 5 1 y103 :: .blk b84 [.slice A111 x86.length c89, vI 0] 40 :: orow A25 x14.length c18 5 1 y73 :: .blk b1 [.string f_0, vI f_1, vI f_2] 55 :: .blk b5 [.slice A10 x7.length c11, vI x8] 45 :: .blk b16 [.slice A25 x14.length c18, vI x23] 136 :: .blk b53 [.slice A62 x51.length c55, vI x60] 40 :: orow A62 x51.length c55 4 1 y63 :: Fz F W :: cs) w' := (h'.pick 12 [0, 2, 4, 5, 1, 6, 7, 8, 9, 10, 11, 3] (by kernel_rfl) (by decide) rfl); exact ⟨(A108, c109, y110, A111, y112), ⟨h113, h114⟩, rfl, h', (by exact h'.sub (.cons _ (.cons _ (.cons _ (.cons _ (.cons _ (.cons_cons _ (.cons_cons _ (.cons _ (.cons_cons _ (.cons_cons _ (.cons_cons _ (.cons_cons _ (.refl _))))))))))))))⟩)) ?_
             rintro ⟨A108, c109, y110, A111, y112⟩ ⟨h113, h114⟩
             refine ops_conv (l' := [(144, .slice A108 x106.length c109), (142, .slice A100 x98.length c101), (143, vP b84 0), (141, .bool true)]) (M' := Mem w0 (orow A108 x106.length c109 5 1 y110 :: orow A111 x86.length c89 4 1 y112 :: orow A100 x98.length c101 5 1 y102 :: orow A10 x7.length c11 5 1 y103 :: .blk b84 [.slice A111 x86.length c89, vI 0] 40 :: orow A25 x14.length c18 5 1 y73 :: .blk b1 [.string f_0, vI f_1, vI f_2] 55 :: .blk b5 [.slice A10 x7.length c11, vI x8] 45 :: .blk b16 [.slice A25 x14.length c18, vI x23] 136 :: .blk b53 [.slice A62 x51.length c55, vI x60] 40 :: orow A62 x51.length c55 4 1 y63 :: Fz F W :: cs)) rfl (fun _ h => h) ?_
             refine oR [] [(144, .slice A108 x106.length c109), (142, .slice A100 x98.length c101), (141, .bool true)] [144, 142, 141] (by kernel_rfl) ?_
             obtain ⟨x115, hv116, hp⟩ := obind hp
             refine ops_callI (σ := Unit) (d := some 145) (f := 32) (args := #[.slice A100 x98.length c101, .slice A108 x106.length c109]) (v := (fun _ => .bool x115)) (I := (fun _ => True)) (M' := (fun _ => Mem w0 (orow A108 x106.length c109 5 1 y110 :: orow A111 x86.length c89 4 1 y112 :: orow A100 x98.length c101 5 1 y102 :: orow A10 x7.length c11 5 1 y103 :: .blk b84 [.slice A111 x86.length c89, vI 0] 40 :: orow A25 x14.length c18 5 1 y73 :: .blk b1 [.string f_0, vI f_1, vI f_2] 55 :: .blk b5 [.slice A10 x7.length c11, vI x8] 45 :: .blk b16 [.slice A25 x14.length c18, vI x23] 136 :: .blk b53 [.slice A62 x51.length c55, vI x60] 40 :: orow A62 x51.length c55 4 1 y63 :: Fz F W :: cs))) ⟨by kernel_rfl⟩ (fun w_ hM hS => (slices_Equal_byte_byte_ok w_ w_ [] (fun b => b < w_.heap.size) w_ A100 c101 x98 A108 c109 x106 (Mem.fz0 w_) (hM.ordS 2 11 rfl rfl h104 rfl rfl) (hM.ordS 0 11 rfl rfl h113 rfl rfl) x115 hv116).mono (by rintro e w' ⟨-, rfl, h'⟩; have h' : Mem w_ [] w' := h'.pick 1 [] (by kernel_rfl) (by decide) rfl; exact ⟨(), trivial, rfl, hM.join h' rfl, (hS.step h'.below)⟩)) ?_
             rintro _ -
             refine ops_conv (l' := [(145, .bool x115), (144, .slice A108 x106.length c109), (142, .slice A100 x98.length c101), (141, .bool true)]) (M' := Mem w0 (orow A108 x106.length c109 5 1 y110 :: orow A111 x86.length c89 4 1 y112 :: orow A100 x98.length c101 5 1 y102 :: orow A10 x7.length c11 5 1 y103 :: .blk b84 [.slice A111 x86.length c89, vI 0] 40 :: orow A25 x14.length c18 5 1 y73 :: .blk b1 [.string f_0, vI f_1, vI f_2] 55 :: .blk b5 [.slice A10 x7.length c11, vI x8] 45 :: .blk b16 [.slice A25 x14.length c18, vI x23] 136 :: .blk b53 [.slice A62 x51.length c55, vI x60] 40 :: orow A62 x51.length c55 4 1 y63 :: Fz F W :: cs)) rfl (fun _ h => h) ?_
             refine oR [oT 13, oT 14] [(6, .bool x115)] [6] (by kernel_rfl) ?_
             refine ops_nil ?_
             exact fin_join HJ4 x115 hp (look_has ⟨rfl, trivial⟩) (fun w_ hM => hM.pick 12 [11] (by kernel_rfl) (by decide) rfl)
            · --
             have hp := cnd_f hc97 hp
             refine oR [oT 10, oF 9, oF 11, oF 12, oT 13, oT 14] [(6, .bool false)] [6] (by kernel_rfl) ?_
             refine ops_nil ?_
             exact fin_join HJ4 false hp (look_has ⟨rfl, trivial⟩) (fun w_ hM => hM.pick 10 [9] (by kernel_rfl) (by decide) rfl)
           · --
            have hp := cnd_f hc93 hp
            refine oR [oT 4, oT 5, oF 3, oT 6, oT 7, oT 8, oT 10, oF 9, oF 11, oF 12, oT 13, oT 14] [(6, .bool false)] [6] (by kernel_rfl) ?_
            refine ops_nil ?_
            exact fin_join HJ4 false hp (look_has ⟨rfl, trivial⟩) (fun w_ hM => hM.pick 10 [9] (by kernel_rfl) (by decide) rfl)
    · --
     intro HJ2
     refine st_seq ?_
     refine st_seq ?_
     refine st_region [oF 0, oF 1] (by rfl) ?_
     refine oR [oF 0, oF 1] [(76, .bool (x59 == 0)), (14, vI x59), (13, vU x58), (12, vP b53 0), (11, vI x22), (10, vI x21), (9, vP b16 0), (8, vI x6), (7, vP b5 0), (3, vP b1 0), (1, vI v)] [76, 14, 13, 12, 11, 10, 9, 8, 7, 3, 1] (by kernel_rfl) ?_
     refine ops_nil ?_
     refine fin_then ?_
     refine st_if (b := (x59 == 0)) rfl (fun hc117 => ?_) (fun hc117 => ?_)
     · --
      have hp := cnd_t hc117 hp
      refine st_region [oF 0, oF 1, oF 2, oF 3, oF 4, oF 5] (by rfl) ?_
      refine oR [oF 0, oF 1] [(78, vP b1 2), (77, vU x58), (14, vI x59), (13, vU x58), (12, vP b53 0), (11, vI x22), (10, vI x21), (9, vP b16 0), (8, vI x6), (7, vP b5 0), (3, vP b1 0), (1, vI v)] [78, 77, 14, 13, 12, 11, 10, 9, 8, 7, 3, 1] (by kernel_rfl) ?_
      refine ops_mem (d := some 79) (an := [.v (vI f_2)]) (evs := [.load ⟨b1, 2, none⟩ (vI f_2)]) (v := vI f_2) (M' := Mem w0 (orow A62 x51.length c55 4 1 y63 :: .blk b53 [.slice A62 x51.length c55, vI x60] 40 :: orow A25 x14.length c18 5 1 y26 :: .blk b16 [.slice A25 x14.length c18, vI x23] 136 :: orow A10 x7.length c11 5 1 y12 :: .blk b5 [.slice A10 x7.length c11, vI x8] 45 :: .blk b1 [.string f_0, vI f_1, vI f_2] 55 :: Fz F W :: cs)) ⟨by kernel_rfl⟩ (fun w_ hM hS => ⟨w_, ⟨hM.cell 6 rfl rfl, rfl⟩, hM, trivial⟩) ?_
      refine oR [oF 3, oF 4, oF 5] [(13, vU (IntKind.u64.wrap (x58 + IntKind.u64.wrap f_2))), (14, vI x59), (12, vP b53 0), (11, vI x22), (10, vI x21), (9, vP b16 0), (8, vI x6), (7, vP b5 0), (3, vP b1 0), (1, vI v)] [13, 14, 12, 11, 10, 9, 8, 7, 3, 1] (by kernel_rfl) ?_
      refine ops_nil ?_
      exact fin_join HJ2 (IntKind.u64.wrap (x58 + IntKind.u64.wrap f_2)) hp (look_has ⟨rfl, rfl, rfl, rfl, rfl, rfl, rfl, rfl, rfl, rfl, trivial⟩) (fun w_ hM => hM.pick 8 [6, 5, 4, 3, 2, 1, 0, 7] (by kernel_rfl) (by decide) rfl)
     · --
      have hp := cnd_f hc117 hp
      refine st_skip ?_
      exact fin_join HJ2 x58 hp (look_has ⟨rfl, rfl, rfl, rfl, rfl, rfl, rfl, rfl, rfl, rfl, trivial⟩) (fun w_ hM => hM.pick 8 [6, 5, 4, 3, 2, 1, 0, 7] (by kernel_rfl) (by decide) rfl)
end Go.Proofs.Ytfihfbkjomploaa.X
