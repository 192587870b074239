/- The Go functions come to what the plain functions tell. No condition. -/
import Derived.Test.YthcniadbdjoecaaProg
import Derived.Test.YthcniadbdjoecaaFnE
import Derived.Test.YthcniadbdjoecaaWkE2
import Derived.Test.YthcniadbdjoecaaWkE3
import Derived.Test.YthcniadbdjoecaaEqE
import Derived.Test.YthcniadbdjoecaaExMap
import Derived.Test.YthcniadbdjoecaaKyE
namespace Go.Proofs.Ythcniadbdjoecaa.E
open Go Go.RowKit Go.Proofs.Ythcniadbdjoecaa.Sx
set_option linter.unusedVariables false
set_option maxHeartbeats 4000000
set_option maxRecDepth 100000
def tourlaw3_EventFilters__t0 : List Row := [⟨0, 22835963083295358096932575511191922182123945984, 8192⟩, ⟨0, 45671926166590716193865151022383844364247891968, 16777216⟩, ⟨2, 91343852333181432387730302044767688728495783936, 45671926166590716193865151022383844364247891968⟩, ⟨5, 182687704666362864775460604089535377456991567872, 114179815416476790484662877555959610910619729920⟩, ⟨0, 365375409332725729550921208179070754913983135744, 16777216⟩, ⟨16, 730750818665451459101842416358141509827966271488, 365375409332725729550921208179070754913983135744⟩, ⟨40, 1461501637330902918203684832716283019655932542976, 913438523331814323877303020447676887284957839360⟩, ⟨64, 2923003274661805836407369665432566039311865085952, 1461501637330902918203684832716283019655932542976⟩, ⟨128, 5846006549323611672814739330865132078623730171904, 2923003274661805836407369665432566039311873474560⟩, ⟨384, 11692013098647223345629478661730264157247460343808, 8769009823985417509222108996297698117935595257856⟩, ⟨640, 23384026197294446691258957323460528314494920687616, 14615016373309029182036848327162830196559325429760⟩, ⟨1024, 46768052394588893382517914646921056628989841375232, 23384026197294446691258957323460528314494922784768⟩, ⟨1024, 93536104789177786765035829293842113257979682750464, 23384026197294446691258957323460528314494929076224⟩, ⟨5120, 187072209578355573530071658587684226515959365500928, 116920130986472233456294786617302641572474603438080⟩, ⟨11264, 374144419156711147060143317175368453031918731001856, 257224288170238913603848530558065811459444127563776⟩, ⟨17408, 748288838313422294120286634350736906063837462003712, 397528445354005593751402274498828981346413651689472⟩, ⟨33792, 1496577676626844588240573268701473812127674924007424, 771672864510716740811545591674197434378332382691328⟩, ⟨1024, 2993155353253689176481146537402947624255349848014848, 23384026197294446691258957323460528314494937464832⟩, ⟨132096, 5986310706507378352962293074805895248510699696029696, 3016539379450983623172405494726408152569844768702464⟩, ⟨328704, 11972621413014756705924586149611790497021399392059392, 7506272409331517387894125300830829588952869540724736⟩, ⟨525440, 23945242826029513411849172299223580994042798784118784, 11998928442486712958452252476600683591375206177832960⟩, ⟨1048704, 47890485652059026823698344598447161988085597568237568, 23948165829304175217685579668889013560082110649204736⟩]
def tourlaw3_EventFilters__t1 : List Row := [⟨0, 24519928653854221733733552434404946937899825954937634816, 4096⟩, ⟨0, 49039857307708443467467104868809893875799651909875269632, 67108864⟩, ⟨2, 98079714615416886934934209737619787751599303819750539264, 49039857307708443467467104868809893875799651909875269632⟩, ⟨0, 196159429230833773869868419475239575503198607639501078528, 67108864⟩, ⟨8, 392318858461667547739736838950479151006397215279002157056, 196159429230833773869868419475239575503198607639501078528⟩, ⟨20, 784637716923335095479473677900958302012794430558004314112, 490398573077084434674671048688098938757996519098752696320⟩, ⟨33, 1569275433846670190958947355801916604025588861116008628224, 809157645577189317213207230335363248950694256512941948928⟩, ⟨0, 3138550867693340381917894711603833208051177722232017256448, 67108864⟩, ⟨192, 6277101735386680763835789423207666416102355444464034512896, 4707826301540010572876842067405749812076766583348025884672⟩, ⟨256, 12554203470773361527671578846415332832204710888928069025792, 6277101735386680763835789423207666416102355444464034512896⟩, ⟨512, 25108406941546723055343157692830665664409421777856138051584, 12554203470773361527671578846415332832204710888928102580224⟩, ⟨1536, 50216813883093446110686315385661331328818843555712276103168, 37662610412320084583014736539245998496614132666784207077376⟩, ⟨2560, 100433627766186892221372630771322662657637687111424552206336, 62771017353866807638357894232076664161023554444640345128960⟩, ⟨4096, 200867255532373784442745261542645325315275374222849104412672, 100433627766186892221372630771322662657637687111424556400640⟩, ⟨4096, 401734511064747568885490523085290650630550748445698208825344, 100433627766186892221372630771322662657637687111424585760768⟩, ⟨20480, 803469022129495137770981046170581301261101496891396417650688, 502168138830934461106863153856613313288188435557122761031680⟩, ⟨45056, 1606938044258990275541962092341162602522202993782792835301376, 1104769905428055814435098938484549289234014558225670074269696⟩, ⟨69632, 3213876088517980551083924184682325205044405987565585670602752, 1707371672025177167763334723112485265179840680894217387507712⟩, ⟨4096, 6427752177035961102167848369364650410088811975131171341205504, 100433627766186892221372630771322662657637687111424619315200⟩, ⟨397312, 12855504354071922204335696738729300820177623950262342682411008, 9742061893320128545473145184818298277790855649808181564014592⟩, ⟨528384, 25711008708143844408671393477458601640355247900524685364822016, 12955937981838109096557069369500623482835261637373767234617344⟩, ⟨1053184, 51422017416287688817342786954917203280710495801049370729644032, 25823996539380804662420437687076339635845090298525037986054144⟩, ⟨2097664, 102844034832575377634685573909834406561420991602098741459288064, 51434571619758462178870458533763618613542700511938298798669824⟩]
theorem tourlaw3_EventFilters_ok (w0 w : World) (cs : List Chunk) (F : Nat → Prop) (W : World) (A_w_0 : Option Addr) (c_w_0 : Nat) (w_0 : List api_Kind) (A_w_1 : Option Addr) (c_w_1 : Nat) (w_1 : List Int) (A_w_2 : Option Addr) (c_w_2 : Nat) (w_2 : List api_Item) (A_l : Option Addr) (c_l : Nat) (l : List api_Event) (s : Int) (vals_0 : Int) (vals_1 : Int) (hM0 : Mem w0 (Fz F W :: cs) w) (h_w_0 : RdS R_api_Kind F W A_w_0 c_w_0 w_0) (h_w_1 : RdS (Rep.int .i64) F W A_w_1 c_w_1 w_1) (h_w_2 : RdS R_api_Item F W A_w_2 c_w_2 w_2) (h_l : RdS R_api_Event F W A_l c_l l) (t9001 : Bool) (hp : tourlaw3_EventFilters w_0 w_1 w_2 l s vals_0 vals_1 = some t9001) : Calls Try.prog 6 #[.agg #[sl A_w_0 w_0 c_w_0, sl A_w_1 w_1 c_w_1, sl A_w_2 w_2 c_w_2], sl A_l l c_l, vI s, .agg #[vI vals_0, vI vals_1]] w fun e w' => (True) ∧ e = .returned (.bool t9001) ∧ Mem w0 (Fz F W :: cs) w' := by
 unfold tourlaw3_EventFilters at hp
 refine sx_calls Try.func6 rfl (n := 208) (by kernel_rfl) (l := [(0, .agg #[sl A_w_0 w_0 c_w_0, sl A_w_1 w_1 c_w_1, sl A_w_2 w_2 c_w_2]), (1, sl A_l l c_l), (2, vI s), (3, .agg #[vI vals_0, vI vals_1])]) rfl (by rfl) hM0 ?_
 refine st_seq (st_region [oF 0, oF 1, oF 2] (by rfl) ?_)
 refine ops_newB (d := some 4) [sl A_w_0 w_0 c_w_0, sl A_w_1 w_1 c_w_1, sl A_w_2 w_2 c_w_2] 26 (fun b1 => ⟨by kernel_rfl⟩) (fun w_ hM hS => trivial) (fun b1 => ?_)
 refine ops_newB (d := some 7) [vI vals_0, vI vals_1] 90 (fun b2 => ⟨by kernel_rfl⟩) (fun w_ hM hS => trivial) (fun b2 => ?_)
 refine oQ [oF 2] [(7, vP b2 0), (4, vP b1 0), (1, sl A_l l c_l), (2, vI s)] (by kernel_rfl) ?_
 refine ops_nil (fin_then (st_seq (st_seq (st_region [oF 0, oF 1, oF 2, oF 3, oF 4, oF 5] (by rfl) ?_))))
 refine oQ [oF 0, oF 1] [(28, .agg #[vI 0, vI 0, vI 0, vI 0]), (27, .agg #[vI 0, vI 0, vI 0, vI 0]), (7, vP b2 0), (4, vP b1 0), (1, sl A_l l c_l), (2, vI s)] (by kernel_rfl) ?_
 have h3 : RepL R_api_Event F W ([(api_Event.mk 0 (api_Ent.mk 0 0) 0), (api_Event.mk 0 (api_Ent.mk 0 0) 0)] : List api_Event) ([vI 0, vI 0, vI 0, vI 0, vI 0, vI 0, vI 0, vI 0]) := (RepL.cons (R := R_api_Event) (F := F) (w := W) (vs := [vI 0, vI 0, vI 0, vI 0]) (ys := [vI 0, vI 0, vI 0, vI 0]) (enc_api_Event) (RepL.cons (R := R_api_Event) (F := F) (w := W) (vs := [vI 0, vI 0, vI 0, vI 0]) (ys := []) (enc_api_Event) RepL.nil))
 refine ops_new (d := some 29) (o := .cells ([vI 0, vI 0, vI 0, vI 0, vI 0, vI 0, vI 0, vI 0] : List Value).toArray 94) (v := fun g4 => .slice (sa g4) ([(api_Event.mk 0 (api_Ent.mk 0 0) 0), (api_Event.mk 0 (api_Ent.mk 0 0) 0)] : List api_Event).length 2) (M' := fun g4 => Mem w0 (orow (sa g4) ([(api_Event.mk 0 (api_Ent.mk 0 0) 0), (api_Event.mk 0 (api_Ent.mk 0 0) 0)] : List api_Event).length 2 94 4 ([vI 0, vI 0, vI 0, vI 0, vI 0, vI 0, vI 0, vI 0]) :: .blk b2 [vI vals_0, vI vals_1] 90 :: .blk b1 [sl A_w_0 w_0 c_w_0, sl A_w_1 w_1 c_w_1, sl A_w_2 w_2 c_w_2] 26 :: Fz F W :: cs)) (fun g4 => ⟨by kernel_rfl⟩) (fun w_ hM hS => ⟨hM.onew [vI 0, vI 0, vI 0, vI 0, vI 0, vI 0, vI 0, vI 0] 94 2 4 rfl (by decide), trivial⟩) (fun g4 => ?_)
 obtain ⟨x5, hv6, hp⟩ := obind hp
 refine ops_callI (σ := (Option Addr) × Nat × (List Value)) (d := some 30) (f := 50) (args := #[.slice (sa g4) ([(api_Event.mk 0 (api_Ent.mk 0 0) 0), (api_Event.mk 0 (api_Ent.mk 0 0) 0)] : List api_Event).length 2]) (v := (fun x_ => match x_ with | (A7, c8, y9) => sl A7 x5 c8)) (I := (fun x_ => match x_ with | (A7, c8, y9) => (RepL R_event_Count F W x5 y9))) (M' := (fun x_ => match x_ with | (A7, c8, y9) => Mem w0 (ow A7 x5 c8 103 2 y9 :: orow (sa g4) ([(api_Event.mk 0 (api_Ent.mk 0 0) 0), (api_Event.mk 0 (api_Ent.mk 0 0) 0)] : List api_Event).length 2 94 4 ([vI 0, vI 0, vI 0, vI 0, vI 0, vI 0, vI 0, vI 0]) :: .blk b2 [vI vals_0, vI vals_1] 90 :: .blk b1 [sl A_w_0 w_0 c_w_0, sl A_w_1 w_1 c_w_1, sl A_w_2 w_2 c_w_2] 26 :: Fz F W :: cs))) ⟨by kernel_rfl⟩ (fun w_ hM hS => (event_Counts_ok w_ w_ [] (fun b => b < w_.heap.size) w_ (sa g4) 2 ([(api_Event.mk 0 (api_Ent.mk 0 0) 0), (api_Event.mk 0 (api_Ent.mk 0 0) 0)] : List api_Event) (Mem.fz0 w_) (hM.ordS 0 3 rfl rfl h3 rfl rfl) x5 hv6).mono (by rintro e w' ⟨A7, c8, y9, h10, rfl, h'⟩; have h' : Mem w_ [ow A7 x5 c8 103 2 y9] w' := h'.pick 2 [0] (by kernel_rfl) (by decide) rfl; exact ⟨(A7, c8, y9), (RepL.move' flat_event_Count h10), rfl, hM.join h' rfl, trivial⟩)) ?_
 rintro ⟨A7, c8, y9⟩ h10
 refine oQ [oF 4, oF 5] [(32, .bool (!((x5.length : Int) == 1))), (7, vP b2 0), (4, vP b1 0), (1, sl A_l l c_l), (2, vI s)] (by kernel_rfl) ?_
 refine ops_nil (fin_then ?_)
 refine st_if (b := !((x5.length : Int) == 1)) rfl (fun hc11 => ?_) (fun hc11 => ?_)
 ·
  have hp := cnd_t hc11 hp
  refine st_seq (st_region [oF 0] (by rfl) ?_)
  refine oQ [oF 0] [(8, .bool false)] (by kernel_rfl) ?_
  refine ops_nil (fin_then (st_ret (fin_ret_then ?_)))
  have hq_ := Option.some.inj hp
  have hr0_ := hq_
  subst hr0_
  refine fin_ret [.tmp 8] [.bool false] rfl rfl (fun w_ hM => (.tmp rfl .nil)) (fun w_ hM => ?_)
  exact ⟨trivial, rfl, hM.pick 5 [4] (by kernel_rfl) (by decide) rfl⟩
 ·
  have hp := cnd_f hc11 hp
  refine st_skip (fin_then (st_seq (st_region [oF 0, oF 1, oF 2] (by rfl) ?_)))
  refine oQ [oF 0, oF 1, oF 2] [(11, .slice none 0 0), (10, .slice none 0 0), (9, .slice none 0 0), (7, vP b2 0), (4, vP b1 0), (1, sl A_l l c_l), (2, vI s)] (by kernel_rfl) ?_
  refine ops_nil (fin_then (st_seq (st_region [oF 0, oF 1] (by rfl) ?_)))
  have h13 := (MapOK.nil : MapOK key_94 R_api_Event true F W ([] : List (api_Event × api_Event)) #[] 0)
  refine ops_new (d := some 33) (o := .map #[] 0) (v := fun g12 => .map (some g12)) (M' := fun g12 => Mem w0 (.obj g12 (.map #[] 0) :: ow A7 x5 c8 103 2 y9 :: orow (sa g4) ([(api_Event.mk 0 (api_Ent.mk 0 0) 0), (api_Event.mk 0 (api_Ent.mk 0 0) 0)] : List api_Event).length 2 94 4 ([vI 0, vI 0, vI 0, vI 0, vI 0, vI 0, vI 0, vI 0]) :: .blk b2 [vI vals_0, vI vals_1] 90 :: .blk b1 [sl A_w_0 w_0 c_w_0, sl A_w_1 w_1 c_w_1, sl A_w_2 w_2 c_w_2] 26 :: Fz F W :: cs)) (fun g12 => ⟨by kernel_rfl⟩) (fun w_ hM hS => ⟨hM.objNew _, trivial⟩) (fun g12 => ?_)
  refine oQ [oF 1] [(12, .map (some g12)), (11, .slice none 0 0), (10, .slice none 0 0), (9, .slice none 0 0), (7, vP b2 0), (4, vP b1 0), (1, sl A_l l c_l), (2, vI s)] (by kernel_rfl) ?_
  refine ops_nil (fin_then (st_seq (st_region [oF 0, oF 1] (by rfl) ?_)))
  have h15 := (MapOK.nil : MapOK (fun x_ : Int => Value.int .i64 x_) (Rep.int .i64) false F W ([] : List (Int × Int)) #[] 0)
  refine ops_new (d := some 34) (o := .map #[] 0) (v := fun g14 => .map (some g14)) (M' := fun g14 => Mem w0 (.obj g14 (.map #[] 0) :: .obj g12 (.map #[] 0) :: ow A7 x5 c8 103 2 y9 :: orow (sa g4) ([(api_Event.mk 0 (api_Ent.mk 0 0) 0), (api_Event.mk 0 (api_Ent.mk 0 0) 0)] : List api_Event).length 2 94 4 ([vI 0, vI 0, vI 0, vI 0, vI 0, vI 0, vI 0, vI 0]) :: .blk b2 [vI vals_0, vI vals_1] 90 :: .blk b1 [sl A_w_0 w_0 c_w_0, sl A_w_1 w_1 c_w_1, sl A_w_2 w_2 c_w_2] 26 :: Fz F W :: cs)) (fun g14 => ⟨by kernel_rfl⟩) (fun w_ hM hS => ⟨hM.objNew _, trivial⟩) (fun g14 => ?_)
  refine oQ [oF 1] [(13, .map (some g14)), (12, .map (some g12)), (11, .slice none 0 0), (10, .slice none 0 0), (9, .slice none 0 0), (7, vP b2 0), (4, vP b1 0), (1, sl A_l l c_l), (2, vI s)] (by kernel_rfl) ?_
  refine ops_nil (fin_then ?_)
  refine st_join1 (σ := (Option Addr) × Nat × (List api_Event) × (List Value) × (Option Addr) × Nat × (List api_Event) × (List Value) × (Option Addr) × Nat × (List api_Event) × (List Value) × (Array MapEntry) × Nat × (List (api_Event × api_Event)) × (Array MapEntry) × Nat × (List (Int × Int))) (L := fun x_ => match x_ with | (A16, c17, l18, y19, A21, c22, l23, y24, A26, c27, l28, y29, es31, ck32, l33, es35, ck36, l37) => [(1, sl A_l l c_l), (2, vI s), (4, vP b1 0), (7, vP b2 0), (9, sl A16 l18 c17), (10, sl A21 l23 c22), (11, sl A26 l28 c27), (12, .map (some g12)), (13, .map (some g14))]) (N := fun x_ => match x_ with | (A16, c17, l18, y19, A21, c22, l23, y24, A26, c27, l28, y29, es31, ck32, l33, es35, ck36, l37) => Mem w0 (.blk b1 [sl A_w_0 w_0 c_w_0, sl A_w_1 w_1 c_w_1, sl A_w_2 w_2 c_w_2] 26 :: .blk b2 [vI vals_0, vI vals_1] 90 :: ow A16 l18 c17 94 4 y19 :: ow A21 l23 c22 94 4 y24 :: ow A26 l28 c27 94 4 y29 :: .obj g12 (.map es31 ck32) :: .obj g14 (.map es35 ck36) :: Fz F W :: cs)) (I := fun x_ => match x_ with | (A16, c17, l18, y19, A21, c22, l23, y24, A26, c27, l28, y29, es31, ck32, l33, es35, ck36, l37) => ((tourlaw3_EventFilters_j1 w_0 w_1 w_2 l s vals_0 vals_1) l18 l23 l28 l33 l37 = some t9001) ∧ (RepL R_api_Event F W l18 y19) ∧ (RepL R_api_Event F W l23 y24) ∧ (RepL R_api_Event F W l28 y29) ∧ (MapOK key_94 R_api_Event true F W l33 es31 ck32) ∧ (MapOK (fun x_ : Int => Value.int .i64 x_) (Rep.int .i64) false F W l37 es35 ck36)) ?_ ?_
  ·
   rintro ⟨A16, c17, l18, y19, A21, c22, l23, y24, A26, c27, l28, y29, es31, ck32, l33, es35, ck36, l37⟩ ⟨hp, h20, h25, h30, h34, h38⟩
   unfold tourlaw3_EventFilters_j1 at hp
   refine st_seq (st_region [oF 0, oF 1, oF 2, oF 3, oF 4, oF 5, oF 6, oF 7] (by rfl) ?_)
   refine ops_mem (d := some 107) (an := [.v (sl A_w_0 w_0 c_w_0), .v (sl A_w_1 w_1 c_w_1), .v (sl A_w_2 w_2 c_w_2)]) (evs := [ld b1 0 (sl A_w_0 w_0 c_w_0), ld b1 1 (sl A_w_1 w_1 c_w_1), ld b1 2 (sl A_w_2 w_2 c_w_2)]) (v := .agg #[sl A_w_0 w_0 c_w_0, sl A_w_1 w_1 c_w_1, sl A_w_2 w_2 c_w_2]) ⟨by kernel_rfl⟩ (fun w_ hM hS => ⟨w_, ⟨hM.cell 0 rfl rfl, hM.cell 0 rfl rfl, hM.cell 0 rfl rfl, rfl⟩, hM, trivial⟩) ?_
   refine oQ [oF 1] [(108, sl A_l l c_l), (107, .agg #[sl A_w_0 w_0 c_w_0, sl A_w_1 w_1 c_w_1, sl A_w_2 w_2 c_w_2]), (1, sl A_l l c_l), (2, vI s), (7, vP b2 0), (9, sl A16 l18 c17), (10, sl A21 l23 c22), (11, sl A26 l28 c27), (12, .map (some g12)), (13, .map (some g14))] (by kernel_rfl) ?_
   obtain ⟨x39, x40, hv41, hp⟩ := obind2 hp
   refine ops_callI (σ := (Option Addr) × Nat × (List Value) × (Option Addr) × Nat × (List Value)) (d := some 109) (f := 51) (args := #[.agg #[sl A_w_0 w_0 c_w_0, sl A_w_1 w_1 c_w_1, sl A_w_2 w_2 c_w_2], sl A_l l c_l]) (v := (fun x_ => match x_ with | (A42, c43, y44, A45, c46, y47) => .tuple #[sl A42 x39 c43, sl A45 x40 c46])) (I := (fun x_ => match x_ with | (A42, c43, y44, A45, c46, y47) => (RepL R_api_Event F W x39 y44) ∧ (RepL R_api_Event F W x40 y47))) (M' := (fun x_ => match x_ with | (A42, c43, y44, A45, c46, y47) => Mem w0 (ow A42 x39 c43 94 4 y44 :: ow A45 x40 c46 94 4 y47 :: .blk b1 [sl A_w_0 w_0 c_w_0, sl A_w_1 w_1 c_w_1, sl A_w_2 w_2 c_w_2] 26 :: .blk b2 [vI vals_0, vI vals_1] 90 :: ow A16 l18 c17 94 4 y19 :: ow A21 l23 c22 94 4 y24 :: ow A26 l28 c27 94 4 y29 :: .obj g12 (.map es31 ck32) :: .obj g14 (.map es35 ck36) :: Fz F W :: cs))) ⟨by kernel_rfl⟩ (fun w_ hM hS => (event_Split_ok w0 w_ (.blk b1 [sl A_w_0 w_0 c_w_0, sl A_w_1 w_1 c_w_1, sl A_w_2 w_2 c_w_2] 26 :: .blk b2 [vI vals_0, vI vals_1] 90 :: ow A16 l18 c17 94 4 y19 :: ow A21 l23 c22 94 4 y24 :: ow A26 l28 c27 94 4 y29 :: .obj g12 (.map es31 ck32) :: .obj g14 (.map es35 ck36) :: cs) F W A_w_0 c_w_0 w_0 A_w_1 c_w_1 w_1 A_w_2 c_w_2 w_2 A_l c_l l (hM.pick 8 [7, 0, 1, 2, 3, 4, 5, 6] (by kernel_rfl) (by decide) rfl) h_w_0 h_w_1 h_w_2 h_l x39 x40 hv41).mono (by rintro e w' ⟨A42, c43, y44, A45, c46, y47, ⟨h48, h49⟩, rfl, h'⟩; have h' : Mem w0 (ow A42 x39 c43 94 4 y44 :: ow A45 x40 c46 94 4 y47 :: .blk b1 [sl A_w_0 w_0 c_w_0, sl A_w_1 w_1 c_w_1, sl A_w_2 w_2 c_w_2] 26 :: .blk b2 [vI vals_0, vI vals_1] 90 :: ow A16 l18 c17 94 4 y19 :: ow A21 l23 c22 94 4 y24 :: ow A26 l28 c27 94 4 y29 :: .obj g12 (.map es31 ck32) :: .obj g14 (.map es35 ck36) :: Fz F W :: cs) w' := (h'.pick 10 [0, 1, 3, 4, 5, 6, 7, 8, 9, 2] (by kernel_rfl) (by decide) rfl); exact ⟨(A42, c43, y44, A45, c46, y47), ⟨h48, h49⟩, rfl, h', trivial⟩)) ?_
   rintro ⟨A42, c43, y44, A45, c46, y47⟩ ⟨h48, h49⟩
   refine oQ [oF 3, oF 4, oF 5, oF 6, oF 7] [(20, sl A45 x40 c46), (19, sl A42 x39 c43), (1, sl A_l l c_l), (2, vI s), (7, vP b2 0), (9, sl A16 l18 c17), (10, sl A21 l23 c22), (11, sl A26 l28 c27), (12, .map (some g12)), (13, .map (some g14))] (by kernel_rfl) ?_
   refine ops_nil (fin_then (st_seq (st_seq (st_region [oF 0, oF 1, oF 2, oF 3, oF 4, oF 5, oF 6, oF 7, oF 8, oF 9, oF 10, oF 11, oF 12, oF 13, oF 14, oF 15, oF 16, oF 17, oF 18] (by rfl) ?_))))
   refine oQ [oF 0, oF 1] [(113, vI s), (112, sl A_l l c_l), (20, sl A45 x40 c46), (19, sl A42 x39 c43), (1, sl A_l l c_l), (7, vP b2 0), (9, sl A16 l18 c17), (10, sl A21 l23 c22), (11, sl A26 l28 c27), (12, .map (some g12)), (13, .map (some g14))] (by kernel_rfl) ?_
   refine ops_mem (d := some 114) (an := [.v (vI vals_0), .v (vI vals_1)]) (evs := [ld b2 0 (vI vals_0), ld b2 1 (vI vals_1)]) (v := .agg #[vI vals_0, vI vals_1]) ⟨by kernel_rfl⟩ (fun w_ hM hS => ⟨w_, ⟨hM.cell 3 rfl rfl, hM.cell 3 rfl rfl, rfl⟩, hM, trivial⟩) ?_
   obtain ⟨x50, hv51, hp⟩ := obind hp
   refine ops_callI (σ := (Option Addr) × Nat × (List Value)) (d := some 115) (f := 53) (args := #[sl A_l l c_l, vI s, .agg #[vI vals_0, vI vals_1]]) (v := (fun x_ => match x_ with | (A52, c53, y54) => sl A52 x50 c53)) (I := (fun x_ => match x_ with | (A52, c53, y54) => (RepL R_api_Event F W x50 y54))) (M' := (fun x_ => match x_ with | (A52, c53, y54) => Mem w0 (ow A52 x50 c53 94 4 y54 :: ow A42 x39 c43 94 4 y44 :: ow A45 x40 c46 94 4 y47 :: .blk b1 [sl A_w_0 w_0 c_w_0, sl A_w_1 w_1 c_w_1, sl A_w_2 w_2 c_w_2] 26 :: .blk b2 [vI vals_0, vI vals_1] 90 :: ow A16 l18 c17 94 4 y19 :: ow A21 l23 c22 94 4 y24 :: ow A26 l28 c27 94 4 y29 :: .obj g12 (.map es31 ck32) :: .obj g14 (.map es35 ck36) :: Fz F W :: cs))) ⟨by kernel_rfl⟩ (fun w_ hM hS => (event_Of_ok w0 w_ (ow A42 x39 c43 94 4 y44 :: ow A45 x40 c46 94 4 y47 :: .blk b1 [sl A_w_0 w_0 c_w_0, sl A_w_1 w_1 c_w_1, sl A_w_2 w_2 c_w_2] 26 :: .blk b2 [vI vals_0, vI vals_1] 90 :: ow A16 l18 c17 94 4 y19 :: ow A21 l23 c22 94 4 y24 :: ow A26 l28 c27 94 4 y29 :: .obj g12 (.map es31 ck32) :: .obj g14 (.map es35 ck36) :: cs) F W A_l c_l l s vals_0 vals_1 (hM.pick 10 [9, 0, 1, 2, 3, 4, 5, 6, 7, 8] (by kernel_rfl) (by decide) rfl) h_l x50 hv51).mono (by rintro e w' ⟨A52, c53, y54, h55, rfl, h'⟩; have h' : Mem w0 (ow A52 x50 c53 94 4 y54 :: ow A42 x39 c43 94 4 y44 :: ow A45 x40 c46 94 4 y47 :: .blk b1 [sl A_w_0 w_0 c_w_0, sl A_w_1 w_1 c_w_1, sl A_w_2 w_2 c_w_2] 26 :: .blk b2 [vI vals_0, vI vals_1] 90 :: ow A16 l18 c17 94 4 y19 :: ow A21 l23 c22 94 4 y24 :: ow A26 l28 c27 94 4 y29 :: .obj g12 (.map es31 ck32) :: .obj g14 (.map es35 ck36) :: Fz F W :: cs) w' := (h'.pick 11 [0, 2, 3, 4, 5, 6, 7, 8, 9, 10, 1] (by kernel_rfl) (by decide) rfl); exact ⟨(A52, c53, y54), h55, rfl, h', trivial⟩)) ?_
   rintro ⟨A52, c53, y54⟩ h55
   refine oQ [oF 4] [(116, sl A16 l18 c17), (115, sl A52 x50 c53), (20, sl A45 x40 c46), (19, sl A42 x39 c43), (1, sl A_l l c_l), (10, sl A21 l23 c22), (11, sl A26 l28 c27), (12, .map (some g12)), (13, .map (some g14))] (by kernel_rfl) ?_
   obtain ⟨x56, hv57, hp⟩ := obind hp
   refine ops_callI (σ := Unit) (d := some 117) (f := 52) (args := #[sl A52 x50 c53, sl A16 l18 c17]) (v := (fun _ => .bool x56)) (I := (fun _ => True)) (M' := (fun _ => Mem w0 (ow A52 x50 c53 94 4 y54 :: ow A42 x39 c43 94 4 y44 :: ow A45 x40 c46 94 4 y47 :: .blk b1 [sl A_w_0 w_0 c_w_0, sl A_w_1 w_1 c_w_1, sl A_w_2 w_2 c_w_2] 26 :: .blk b2 [vI vals_0, vI vals_1] 90 :: ow A16 l18 c17 94 4 y19 :: ow A21 l23 c22 94 4 y24 :: ow A26 l28 c27 94 4 y29 :: .obj g12 (.map es31 ck32) :: .obj g14 (.map es35 ck36) :: Fz F W :: cs))) ⟨by kernel_rfl⟩ (fun w_ hM hS => (slices_Equal_api_Event_api_Event_ok w_ w_ [] (fun b => b < w_.heap.size) w_ A52 c53 x50 A16 c17 l18 (Mem.fz0 w_) (hM.ordS 0 10 rfl rfl h55 rfl rfl) (hM.ordS 5 10 rfl rfl h20 rfl rfl) x56 hv57).mono (by rintro e w' ⟨-, rfl, h'⟩; have h' : Mem w_ [] w' := h'.pick 1 [] (by kernel_rfl) (by decide) rfl; exact ⟨(), trivial, rfl, hM.join h' rfl, trivial⟩)) ?_
   rintro _ -
   refine oQ [oF 6, oF 7] [(119, .bool (!x56)), (20, sl A45 x40 c46), (19, sl A42 x39 c43), (1, sl A_l l c_l), (10, sl A21 l23 c22), (11, sl A26 l28 c27), (12, .map (some g12)), (13, .map (some g14))] (by kernel_rfl) ?_
   refine ops_bool (t := !x56) (l1 := [(119, .bool true), (20, sl A45 x40 c46), (19, sl A42 x39 c43), (1, sl A_l l c_l), (10, sl A21 l23 c22), (11, sl A26 l28 c27), (12, .map (some g12)), (13, .map (some g14))]) (l2 := [(119, .bool false), (20, sl A45 x40 c46), (19, sl A42 x39 c43), (1, sl A_l l c_l), (10, sl A21 l23 c22), (11, sl A26 l28 c27), (12, .map (some g12)), (13, .map (some g14))]) (fun h => by rw [h]) (fun h => by rw [h]) (fun hc58 => ?_) (fun hc58 => ?_)
   ·
    have hp := cnd_t hc58 hp
    refine oQ [oF 8, oF 9, oF 10, oF 11, oF 12, oF 13, oF 14, oF 15, oF 16, oF 17, oF 18] [(130, .bool true), (1, sl A_l l c_l), (12, .map (some g12)), (13, .map (some g14))] (by kernel_rfl) ?_
    refine ops_nil (fin_then (st_true rfl (st_seq (st_region [oF 0] (by rfl) ?_))))
    refine oQ [oF 0] [(8, .bool false)] (by kernel_rfl) ?_
    refine ops_nil (fin_then (st_ret (fin_ret_then ?_)))
    have hq_ := Option.some.inj hp
    have hr0_ := hq_
    subst hr0_
    refine fin_ret [.tmp 8] [.bool false] rfl rfl (fun w_ hM => (.tmp rfl .nil)) (fun w_ hM => ?_)
    exact ⟨trivial, rfl, hM.pick 11 [10] (by kernel_rfl) (by decide) rfl⟩
   ·
    have hp := cnd_f hc58 hp
    refine oQ [oF 8, oF 9] [(121, sl A21 l23 c22), (120, sl A42 x39 c43), (119, .bool false), (20, sl A45 x40 c46), (1, sl A_l l c_l), (11, sl A26 l28 c27), (12, .map (some g12)), (13, .map (some g14))] (by kernel_rfl) ?_
    obtain ⟨x59, hv60, hp⟩ := obind hp
    refine ops_callI (σ := Unit) (d := some 122) (f := 52) (args := #[sl A42 x39 c43, sl A21 l23 c22]) (v := (fun _ => .bool x59)) (I := (fun _ => True)) (M' := (fun _ => Mem w0 (ow A52 x50 c53 94 4 y54 :: ow A42 x39 c43 94 4 y44 :: ow A45 x40 c46 94 4 y47 :: .blk b1 [sl A_w_0 w_0 c_w_0, sl A_w_1 w_1 c_w_1, sl A_w_2 w_2 c_w_2] 26 :: .blk b2 [vI vals_0, vI vals_1] 90 :: ow A16 l18 c17 94 4 y19 :: ow A21 l23 c22 94 4 y24 :: ow A26 l28 c27 94 4 y29 :: .obj g12 (.map es31 ck32) :: .obj g14 (.map es35 ck36) :: Fz F W :: cs))) ⟨by kernel_rfl⟩ (fun w_ hM hS => (slices_Equal_api_Event_api_Event_ok w_ w_ [] (fun b => b < w_.heap.size) w_ A42 c43 x39 A21 c22 l23 (Mem.fz0 w_) (hM.ordS 1 10 rfl rfl h48 rfl rfl) (hM.ordS 6 10 rfl rfl h25 rfl rfl) x59 hv60).mono (by rintro e w' ⟨-, rfl, h'⟩; have h' : Mem w_ [] w' := h'.pick 1 [] (by kernel_rfl) (by decide) rfl; exact ⟨(), trivial, rfl, hM.join h' rfl, trivial⟩)) ?_
    rintro _ -
    refine oQ [oF 11, oF 12, oF 13] [(125, .bool (!x59)), (20, sl A45 x40 c46), (1, sl A_l l c_l), (11, sl A26 l28 c27), (12, .map (some g12)), (13, .map (some g14))] (by kernel_rfl) ?_
    refine ops_bool (t := !x59) (l1 := [(125, .bool true), (20, sl A45 x40 c46), (1, sl A_l l c_l), (11, sl A26 l28 c27), (12, .map (some g12)), (13, .map (some g14))]) (l2 := [(125, .bool false), (20, sl A45 x40 c46), (1, sl A_l l c_l), (11, sl A26 l28 c27), (12, .map (some g12)), (13, .map (some g14))]) (fun h => by rw [h]) (fun h => by rw [h]) (fun hc61 => ?_) (fun hc61 => ?_)
    ·
     have hp := cnd_t hc61 hp
     refine oQ [oF 14, oF 15, oF 16, oF 17, oF 18] [(130, .bool true), (1, sl A_l l c_l), (12, .map (some g12)), (13, .map (some g14))] (by kernel_rfl) ?_
     refine ops_nil (fin_then (st_true rfl (st_seq (st_region [oF 0] (by rfl) ?_))))
     refine oQ [oF 0] [(8, .bool false)] (by kernel_rfl) ?_
     refine ops_nil (fin_then (st_ret (fin_ret_then ?_)))
     have hq_ := Option.some.inj hp
     have hr0_ := hq_
     subst hr0_
     refine fin_ret [.tmp 8] [.bool false] rfl rfl (fun w_ hM => (.tmp rfl .nil)) (fun w_ hM => ?_)
     exact ⟨trivial, rfl, hM.pick 11 [10] (by kernel_rfl) (by decide) rfl⟩
    ·
     have hp := cnd_f hc61 hp
     refine oQ [oF 14, oF 15] [(127, sl A26 l28 c27), (126, sl A45 x40 c46), (125, .bool false), (1, sl A_l l c_l), (12, .map (some g12)), (13, .map (some g14))] (by kernel_rfl) ?_
     obtain ⟨x62, hv63, hp⟩ := obind hp
     refine ops_callI (σ := Unit) (d := some 128) (f := 52) (args := #[sl A45 x40 c46, sl A26 l28 c27]) (v := (fun _ => .bool x62)) (I := (fun _ => True)) (M' := (fun _ => Mem w0 (ow A52 x50 c53 94 4 y54 :: ow A42 x39 c43 94 4 y44 :: ow A45 x40 c46 94 4 y47 :: .blk b1 [sl A_w_0 w_0 c_w_0, sl A_w_1 w_1 c_w_1, sl A_w_2 w_2 c_w_2] 26 :: .blk b2 [vI vals_0, vI vals_1] 90 :: ow A16 l18 c17 94 4 y19 :: ow A21 l23 c22 94 4 y24 :: ow A26 l28 c27 94 4 y29 :: .obj g12 (.map es31 ck32) :: .obj g14 (.map es35 ck36) :: Fz F W :: cs))) ⟨by kernel_rfl⟩ (fun w_ hM hS => (slices_Equal_api_Event_api_Event_ok w_ w_ [] (fun b => b < w_.heap.size) w_ A45 c46 x40 A26 c27 l28 (Mem.fz0 w_) (hM.ordS 2 10 rfl rfl h49 rfl rfl) (hM.ordS 7 10 rfl rfl h30 rfl rfl) x62 hv63).mono (by rintro e w' ⟨-, rfl, h'⟩; have h' : Mem w_ [] w' := h'.pick 1 [] (by kernel_rfl) (by decide) rfl; exact ⟨(), trivial, rfl, hM.join h' rfl, trivial⟩)) ?_
     rintro _ -
     refine oQ [oF 17, oF 18] [(130, .bool (!x62)), (1, sl A_l l c_l), (12, .map (some g12)), (13, .map (some g14))] (by kernel_rfl) ?_
     refine ops_nil (fin_then ?_)
     refine st_if (b := !x62) rfl (fun hc64 => ?_) (fun hc64 => ?_)
     ·
      have hp := cnd_t hc64 hp
      refine st_seq (st_region [oF 0] (by rfl) ?_)
      refine oQ [oF 0] [(8, .bool false)] (by kernel_rfl) ?_
      refine ops_nil (fin_then (st_ret (fin_ret_then ?_)))
      have hq_ := Option.some.inj hp
      have hr0_ := hq_
      subst hr0_
      refine fin_ret [.tmp 8] [.bool false] rfl rfl (fun w_ hM => (.tmp rfl .nil)) (fun w_ hM => ?_)
      exact ⟨trivial, rfl, hM.pick 11 [10] (by kernel_rfl) (by decide) rfl⟩
     ·
      have hp := cnd_f hc64 hp
      refine st_skip (fin_then (st_seq (st_region [oF 0, oF 1, oF 2, oF 3, oF 4, oF 5] (by rfl) ?_)))
      refine oQ [oF 0] [(131, sl A_l l c_l), (1, sl A_l l c_l), (12, .map (some g12)), (13, .map (some g14))] (by kernel_rfl) ?_
      obtain ⟨x65, hv66, hp⟩ := obind hp
      refine ops_callI (σ := (Option Addr) × Nat × (List Value)) (d := some 132) (f := 50) (args := #[sl A_l l c_l]) (v := (fun x_ => match x_ with | (A67, c68, y69) => sl A67 x65 c68)) (I := (fun x_ => match x_ with | (A67, c68, y69) => (RepL R_event_Count F W x65 y69))) (M' := (fun x_ => match x_ with | (A67, c68, y69) => Mem w0 (ow A67 x65 c68 103 2 y69 :: ow A52 x50 c53 94 4 y54 :: ow A42 x39 c43 94 4 y44 :: ow A45 x40 c46 94 4 y47 :: .blk b1 [sl A_w_0 w_0 c_w_0, sl A_w_1 w_1 c_w_1, sl A_w_2 w_2 c_w_2] 26 :: .blk b2 [vI vals_0, vI vals_1] 90 :: ow A16 l18 c17 94 4 y19 :: ow A21 l23 c22 94 4 y24 :: ow A26 l28 c27 94 4 y29 :: .obj g12 (.map es31 ck32) :: .obj g14 (.map es35 ck36) :: Fz F W :: cs))) ⟨by kernel_rfl⟩ (fun w_ hM hS => (event_Counts_ok w0 w_ (ow A52 x50 c53 94 4 y54 :: ow A42 x39 c43 94 4 y44 :: ow A45 x40 c46 94 4 y47 :: .blk b1 [sl A_w_0 w_0 c_w_0, sl A_w_1 w_1 c_w_1, sl A_w_2 w_2 c_w_2] 26 :: .blk b2 [vI vals_0, vI vals_1] 90 :: ow A16 l18 c17 94 4 y19 :: ow A21 l23 c22 94 4 y24 :: ow A26 l28 c27 94 4 y29 :: .obj g12 (.map es31 ck32) :: .obj g14 (.map es35 ck36) :: cs) F W A_l c_l l (hM.pick 11 [10, 0, 1, 2, 3, 4, 5, 6, 7, 8, 9] (by kernel_rfl) (by decide) rfl) h_l x65 hv66).mono (by rintro e w' ⟨A67, c68, y69, h70, rfl, h'⟩; have h' : Mem w0 (ow A67 x65 c68 103 2 y69 :: ow A52 x50 c53 94 4 y54 :: ow A42 x39 c43 94 4 y44 :: ow A45 x40 c46 94 4 y47 :: .blk b1 [sl A_w_0 w_0 c_w_0, sl A_w_1 w_1 c_w_1, sl A_w_2 w_2 c_w_2] 26 :: .blk b2 [vI vals_0, vI vals_1] 90 :: ow A16 l18 c17 94 4 y19 :: ow A21 l23 c22 94 4 y24 :: ow A26 l28 c27 94 4 y29 :: .obj g12 (.map es31 ck32) :: .obj g14 (.map es35 ck36) :: Fz F W :: cs) w' := (h'.pick 12 [0, 2, 3, 4, 5, 6, 7, 8, 9, 10, 11, 1] (by kernel_rfl) (by decide) rfl); exact ⟨(A67, c68, y69), h70, rfl, h', trivial⟩)) ?_
      rintro ⟨A67, c68, y69⟩ h70
      refine oQ [oF 2] [(133, sl A_l l c_l), (132, sl A67 x65 c68), (12, .map (some g12)), (13, .map (some g14))] (by kernel_rfl) ?_
      obtain ⟨x71, hv72, hp⟩ := obind hp
      refine ops_callI (σ := (Option Addr) × Nat × (List Value)) (d := some 134) (f := 54) (args := #[sl A_l l c_l]) (v := (fun x_ => match x_ with | (A73, c74, y75) => sl A73 x71 c74)) (I := (fun x_ => match x_ with | (A73, c74, y75) => (RepL R_api_Event F W x71 y75))) (M' := (fun x_ => match x_ with | (A73, c74, y75) => Mem w0 (ow A73 x71 c74 94 4 y75 :: ow A67 x65 c68 103 2 y69 :: ow A52 x50 c53 94 4 y54 :: ow A42 x39 c43 94 4 y44 :: ow A45 x40 c46 94 4 y47 :: .blk b1 [sl A_w_0 w_0 c_w_0, sl A_w_1 w_1 c_w_1, sl A_w_2 w_2 c_w_2] 26 :: .blk b2 [vI vals_0, vI vals_1] 90 :: ow A16 l18 c17 94 4 y19 :: ow A21 l23 c22 94 4 y24 :: ow A26 l28 c27 94 4 y29 :: .obj g12 (.map es31 ck32) :: .obj g14 (.map es35 ck36) :: Fz F W :: cs))) ⟨by kernel_rfl⟩ (fun w_ hM hS => (event_Last_ok w0 w_ (ow A67 x65 c68 103 2 y69 :: ow A52 x50 c53 94 4 y54 :: ow A42 x39 c43 94 4 y44 :: ow A45 x40 c46 94 4 y47 :: .blk b1 [sl A_w_0 w_0 c_w_0, sl A_w_1 w_1 c_w_1, sl A_w_2 w_2 c_w_2] 26 :: .blk b2 [vI vals_0, vI vals_1] 90 :: ow A16 l18 c17 94 4 y19 :: ow A21 l23 c22 94 4 y24 :: ow A26 l28 c27 94 4 y29 :: .obj g12 (.map es31 ck32) :: .obj g14 (.map es35 ck36) :: cs) F W A_l c_l l (hM.pick 12 [11, 0, 1, 2, 3, 4, 5, 6, 7, 8, 9, 10] (by kernel_rfl) (by decide) rfl) h_l x71 hv72).mono (by rintro e w' ⟨A73, c74, y75, h76, rfl, h'⟩; have h' : Mem w0 (ow A73 x71 c74 94 4 y75 :: ow A67 x65 c68 103 2 y69 :: ow A52 x50 c53 94 4 y54 :: ow A42 x39 c43 94 4 y44 :: ow A45 x40 c46 94 4 y47 :: .blk b1 [sl A_w_0 w_0 c_w_0, sl A_w_1 w_1 c_w_1, sl A_w_2 w_2 c_w_2] 26 :: .blk b2 [vI vals_0, vI vals_1] 90 :: ow A16 l18 c17 94 4 y19 :: ow A21 l23 c22 94 4 y24 :: ow A26 l28 c27 94 4 y29 :: .obj g12 (.map es31 ck32) :: .obj g14 (.map es35 ck36) :: Fz F W :: cs) w' := (h'.pick 13 [0, 2, 3, 4, 5, 6, 7, 8, 9, 10, 11, 12, 1] (by kernel_rfl) (by decide) rfl); exact ⟨(A73, c74, y75), h76, rfl, h', trivial⟩)) ?_
      rintro ⟨A73, c74, y75⟩ h76
      refine oQ [oF 4, oF 5] [(22, sl A73 x71 c74), (21, sl A67 x65 c68), (12, .map (some g12)), (13, .map (some g14))] (by kernel_rfl) ?_
      refine ops_nil (fin_then (st_seq (st_seq (st_region [oF 0, oF 1, oF 2, oF 3, oF 4, oF 5, oF 6, oF 7, oF 8, oF 9, oF 10, oF 11] (by rfl) ?_))))
      refine oQ [oF 0, oF 1, oF 2] [(137, .map (some g14)), (136, vI (x65.length : Int)), (22, sl A73 x71 c74), (21, sl A67 x65 c68), (12, .map (some g12)), (13, .map (some g14))] (by kernel_rfl) ?_
      refine ops_law (op := (.call { callee := (Go.Callee.builtin Go.Builtin.len), args := #[(.tmp 137)], argTypes := #[96] })) (d := some 138) (σ := Unit) (v := fun _ => vI (l37.length : Int)) (M' := fun _ => Mem w0 (ow A73 x71 c74 94 4 y75 :: ow A67 x65 c68 103 2 y69 :: ow A52 x50 c53 94 4 y54 :: ow A42 x39 c43 94 4 y44 :: ow A45 x40 c46 94 4 y47 :: .blk b1 [sl A_w_0 w_0 c_w_0, sl A_w_1 w_1 c_w_1, sl A_w_2 w_2 c_w_2] 26 :: .blk b2 [vI vals_0, vI vals_1] 90 :: ow A16 l18 c17 94 4 y19 :: ow A21 l23 c22 94 4 y24 :: ow A26 l28 c27 94 4 y29 :: .obj g12 (.map es31 ck32) :: .obj g14 (.map es35 ck36) :: Fz F W :: cs)) ⟨by kernel_rfl⟩ (fun o_ w_ ho_ hM hS => ⟨(), w_, run_lenMapV Try.underlying96 rfl (hM.mapAt 11 rfl) h38.len o_ ho_, hM, trivial⟩) (fun _ => ?_)
      refine oQ [oF 4, oF 5] [(140, .bool (!((x65.length : Int) == (l37.length : Int)))), (22, sl A73 x71 c74), (21, sl A67 x65 c68), (12, .map (some g12)), (13, .map (some g14))] (by kernel_rfl) ?_
      refine ops_bool (t := !((x65.length : Int) == (l37.length : Int))) (l1 := [(140, .bool true), (22, sl A73 x71 c74), (21, sl A67 x65 c68), (12, .map (some g12)), (13, .map (some g14))]) (l2 := [(140, .bool false), (22, sl A73 x71 c74), (21, sl A67 x65 c68), (12, .map (some g12)), (13, .map (some g14))]) (fun h => by rw [h]) (fun h => by rw [h]) (fun hc77 => ?_) (fun hc77 => ?_)
      ·
       have hp := cnd_t hc77 hp
       refine oQ [oF 6, oF 7, oF 8, oF 9, oF 10, oF 11] [(146, .bool true), (22, sl A73 x71 c74), (21, sl A67 x65 c68), (12, .map (some g12)), (13, .map (some g14))] (by kernel_rfl) ?_
       refine ops_nil (fin_then (st_true rfl (st_seq (st_region [oF 0] (by rfl) ?_))))
       refine oQ [oF 0] [(8, .bool false)] (by kernel_rfl) ?_
       refine ops_nil (fin_then (st_ret (fin_ret_then ?_)))
       have hq_ := Option.some.inj hp
       have hr0_ := hq_
       subst hr0_
       refine fin_ret [.tmp 8] [.bool false] rfl rfl (fun w_ hM => (.tmp rfl .nil)) (fun w_ hM => ?_)
       exact ⟨trivial, rfl, hM.pick 13 [12] (by kernel_rfl) (by decide) rfl⟩
      ·
       have hp := cnd_f hc77 hp
       refine oQ [oF 6, oF 7, oF 8] [(143, .map (some g12)), (142, vI (x71.length : Int)), (140, .bool false), (22, sl A73 x71 c74), (21, sl A67 x65 c68), (12, .map (some g12)), (13, .map (some g14))] (by kernel_rfl) ?_
       refine ops_law (op := (.call { callee := (Go.Callee.builtin Go.Builtin.len), args := #[(.tmp 143)], argTypes := #[95] })) (d := some 144) (σ := Unit) (v := fun _ => vI (l33.length : Int)) (M' := fun _ => Mem w0 (ow A73 x71 c74 94 4 y75 :: ow A67 x65 c68 103 2 y69 :: ow A52 x50 c53 94 4 y54 :: ow A42 x39 c43 94 4 y44 :: ow A45 x40 c46 94 4 y47 :: .blk b1 [sl A_w_0 w_0 c_w_0, sl A_w_1 w_1 c_w_1, sl A_w_2 w_2 c_w_2] 26 :: .blk b2 [vI vals_0, vI vals_1] 90 :: ow A16 l18 c17 94 4 y19 :: ow A21 l23 c22 94 4 y24 :: ow A26 l28 c27 94 4 y29 :: .obj g12 (.map es31 ck32) :: .obj g14 (.map es35 ck36) :: Fz F W :: cs)) ⟨by kernel_rfl⟩ (fun o_ w_ ho_ hM hS => ⟨(), w_, run_lenMapV Try.underlying95 rfl (hM.mapAt 10 rfl) h34.len o_ ho_, hM, trivial⟩) (fun _ => ?_)
       refine oQ [oF 10, oF 11] [(146, .bool (!((x71.length : Int) == (l33.length : Int)))), (22, sl A73 x71 c74), (21, sl A67 x65 c68), (12, .map (some g12)), (13, .map (some g14))] (by kernel_rfl) ?_
       refine ops_nil (fin_then ?_)
       refine st_if (b := !((x71.length : Int) == (l33.length : Int))) rfl (fun hc78 => ?_) (fun hc78 => ?_)
       ·
        have hp := cnd_t hc78 hp
        refine st_seq (st_region [oF 0] (by rfl) ?_)
        refine oQ [oF 0] [(8, .bool false)] (by kernel_rfl) ?_
        refine ops_nil (fin_then (st_ret (fin_ret_then ?_)))
        have hq_ := Option.some.inj hp
        have hr0_ := hq_
        subst hr0_
        refine fin_ret [.tmp 8] [.bool false] rfl rfl (fun w_ hM => (.tmp rfl .nil)) (fun w_ hM => ?_)
        exact ⟨trivial, rfl, hM.pick 13 [12] (by kernel_rfl) (by decide) rfl⟩
       ·
        have hp := cnd_f hc78 hp
        refine st_skip (fin_then ?_)
        refine st_join1 (σ := Unit) (L := fun _ => [(12, .map (some g12)), (22, sl A73 x71 c74)]) (N := fun _ => Mem w0 (.obj g12 (.map es31 ck32) :: ow A73 x71 c74 94 4 y75 :: Fz F W :: cs)) (I := fun _ => ((tourlaw3_EventFilters_j2 x71 l33) = some t9001)) ?_ ?_
        ·
         rintro _ hp
         unfold tourlaw3_EventFilters_j2 at hp
         refine st_join1 (σ := Unit) (L := fun _ => []) (N := fun _ => Mem w0 (Fz F W :: cs)) (I := fun _ => (tourlaw3_EventFilters_j3 = some t9001)) ?_ ?_
         ·
          rintro _ hp
          unfold tourlaw3_EventFilters_j3 at hp
          refine st_seq (st_region [oF 0] (by rfl) ?_)
          refine oQ [oF 0] [(8, .bool true)] (by kernel_rfl) ?_
          refine ops_nil (fin_then (st_ret ?_))
          have hq_ := Option.some.inj hp
          have hr0_ := hq_
          subst hr0_
          refine fin_ret [.tmp 8] [.bool true] rfl rfl (fun w_ hM => (.tmp rfl .nil)) (fun w_ hM => ?_)
          exact ⟨trivial, rfl, hM⟩
         ·
          intro HJ3
          refine st_seq (st_seq (st_region [oF 0, oF 1, oF 2] (by rfl) ?_))
          refine oQ [oF 0, oF 1, oF 2] [(179, vI 0), (178, vI (x71.length : Int)), (177, sl A73 x71 c74), (12, .map (some g12)), (22, sl A73 x71 c74)] (by kernel_rfl) ?_
          refine ops_nil (fin_then (st_block ?_))
          obtain ⟨r4, hl4, hk4⟩ := obind hp
          refine st_loopP (σ := Int) (ρ := (Bool ⊕ Unit)) (γ := Unit) hl4 () (fun s_ g_ => match s_, g_ with | i79, _ => [(12, .map (some g12)), (22, sl A73 x71 c74), (177, sl A73 x71 c74), (178, vI (x71.length : Int)), (179, vI i79)]) (fun s_ g_ => match s_, g_ with | i79, _ => Mem w0 (.obj g12 (.map es31 ck32) :: ow A73 x71 c74 94 4 y75 :: Fz F W :: cs)) (fun s_ g_ => match s_, g_ with | i79, _ => True) trivial (look_has ⟨rfl, rfl, rfl, rfl, rfl, trivial⟩) (fun w_ hM => hM) ?_
          rintro i79 _ o4 - hs_ hd4
          have hp : (tourlaw3_EventFilters_l4 x71 l33) i79 = some o4 := hs_
          clear hs_
          unfold tourlaw3_EventFilters_l4 at hp
          refine st_seq (st_region [oF 0] (by rfl) ?_)
          refine oQ [oF 0] [(180, .bool (decide (i79 < (x71.length : Int)))), (12, .map (some g12)), (22, sl A73 x71 c74), (177, sl A73 x71 c74), (178, vI (x71.length : Int)), (179, vI i79)] (by kernel_rfl) ?_
          refine ops_nil (fin_then (st_seq ?_))
          refine st_if (b := decide (i79 < (x71.length : Int))) rfl (fun hc80 => ?_) (fun hc80 => ?_)
          ·
           have hp := cnd_t hc80 hp
           refine st_skip (fin_then ?_)
           refine st_join1 (σ := Unit) (L := fun _ => [(12, .map (some g12)), (22, sl A73 x71 c74), (177, sl A73 x71 c74), (178, vI (x71.length : Int)), (179, vI i79)]) (N := fun _ => Mem w0 (.obj g12 (.map es31 ck32) :: ow A73 x71 c74 94 4 y75 :: Fz F W :: cs)) (I := fun _ => ((tourlaw3_EventFilters_j5 i79) = some o4)) ?_ ?_
           ·
            rintro _ hp
            unfold tourlaw3_EventFilters_j5 at hp
            refine st_region [oF 0, oF 1] (by rfl) ?_
            refine oQ [oF 0, oF 1] [(179, vI (IntKind.i64.wrap (i79 + 1))), (12, .map (some g12)), (22, sl A73 x71 c74), (177, sl A73 x71 c74), (178, vI (x71.length : Int))] (by kernel_rfl) ?_
            refine ops_nil ?_
            exact fin_again (IntKind.i64.wrap (i79 + 1)) () (Option.some.inj hp).symm trivial (look_has ⟨rfl, rfl, rfl, rfl, rfl, trivial⟩) (fun w_ hM => hM)
           ·
            intro HJ5
            refine st_seq (st_block (st_seq (st_region [oF 0, oF 1, oF 2, oF 3, oF 4, oF 5] (by rfl) ?_)))
            refine oQ [oF 0] [(181, vI i79), (12, .map (some g12)), (22, sl A73 x71 c74), (177, sl A73 x71 c74), (178, vI (x71.length : Int)), (179, vI i79)] (by kernel_rfl) ?_
            obtain ⟨x81, hv82, hp⟩ := obind hp
            obtain ⟨m83, hm84, hx85⟩ := idx_some hv82
            have hl88 := (List.getElem?_eq_some_iff.1 hx85).1
            refine ops_fact (fun w_ hM => hM.orowSome 1 rfl (Nat.lt_of_le_of_lt (Nat.zero_le _) hl88)) ?_
            rintro ⟨g89, rfl, -⟩
            obtain ⟨vs86, hr87, hq90⟩ := h76.at_ m83 x81 hx85
            obtain rfl := dec_api_Event hr87
            refine ops_val (op := (.indexAddr 88 (.tmp 177) (.tmp 179))) (d := some 182) (v := vP g89 (m83 * 4)) ⟨by kernel_rfl⟩ (run_indexRow Try.underlying88 (z := 4) (by kernel_rfl) rfl rfl hm84 hl88 rfl) ?_
            refine ops_mem (d := some 183) (an := [.v (vI x81.System), .v (vI x81.Ent.N), .v (vI x81.Ent.Gen), .v (vI x81.Value)]) (evs := [.load ⟨g89, m83 * 4, none⟩ (vI x81.System), .load ⟨g89, m83 * 4 + 1, none⟩ (vI x81.Ent.N), .load ⟨g89, m83 * 4 + 2, none⟩ (vI x81.Ent.Gen), .load ⟨g89, m83 * 4 + 3, none⟩ (vI x81.Value)]) (v := .agg #[vI x81.System, vI x81.Ent.N, vI x81.Ent.Gen, vI x81.Value]) ⟨by kernel_rfl⟩ (fun w_ hM hS => ⟨w_, ⟨hM.ocell 1 rfl (hq90 0 _ rfl), hM.ocell 1 rfl (hq90 1 _ rfl), hM.ocell 1 rfl (hq90 2 _ rfl), hM.ocell 1 rfl (hq90 3 _ rfl), rfl⟩, hM, trivial⟩) ?_
            refine ops_newB (d := some 26) [vI 0, vI 0, vI 0, vI 0] 94 (fun b91 => ⟨by kernel_rfl⟩) (fun w_ hM hS => trivial) (fun b91 => ?_)
            refine oQ [oF 4] [(25, vI i79), (26, vP b91 0), (183, .agg #[vI x81.System, vI x81.Ent.N, vI x81.Ent.Gen, vI x81.Value]), (12, .map (some g12)), (22, sl (sa g89) x71 c74), (177, sl (sa g89) x71 c74), (178, vI (x71.length : Int)), (179, vI i79)] (by kernel_rfl) ?_
            refine ops_store (an := []) (evs := [sr b91 0 (vI x81.System), sr b91 1 (vI x81.Ent.N), sr b91 2 (vI x81.Ent.Gen), sr b91 3 (vI x81.Value)]) ⟨by kernel_rfl⟩ (fun w_ hM hS => let ⟨w', he, h'⟩ := hM.evs_stores [vI x81.System, vI x81.Ent.N, vI x81.Ent.Gen, vI x81.Value] 0 rfl 0 (Nat.le_of_ble_eq_true rfl); ⟨w', he, h', trivial⟩) ?_
            refine ops_nil (fin_then (st_seq ?_))
            refine st_region_fast tourlaw3_EventFilters__t1 [oT 0, oT 1, oT 2, oT 3, oT 4, oT 5, oT 7, oF 6, oT 8, oT 9, oT 10, oT 11, oT 12, oT 13, oT 14, oT 15, oT 16, oT 17, oT 18, oF 19, oT 20, oT 21, oT 22] (Mem w0 (.blk b91 [vI x81.System, vI x81.Ent.N, vI x81.Ent.Gen, vI x81.Value] 94 :: .obj g12 (.map es31 ck32) :: ow (sa g89) x71 c74 94 4 y75 :: Fz F W :: cs)) (by kernel_rfl) (by kernel_rfl) (by kernel_rfl) (by kernel_rfl) (by kernel_rfl) (fun _ d _ _ _ h => by cases d <;> exact h) (M' := Mem w0 (.blk b91 [vI x81.System, vI x81.Ent.N, vI x81.Ent.Gen, vI x81.Value] 94 :: .obj g12 (.map es31 ck32) :: ow (sa g89) x71 c74 94 4 y75 :: Fz F W :: cs)) (fun w_ hM => ⟨hM.drew, hM.drew.sub (.cons_cons _ (.cons_cons _ (.cons_cons _ (.cons_cons _ (.refl _)))))⟩) ?_
            refine oQ [oT 0, oT 1] [(185, vP b91 0), (184, .map (some g12)), (25, vI i79), (26, vP b91 0), (12, .map (some g12)), (22, sl (sa g89) x71 c74), (177, sl (sa g89) x71 c74), (178, vI (x71.length : Int)), (179, vI i79)] (by kernel_rfl) ?_
            refine ops_load (d := some 186) (an := [.v (vI x81.System)]) (evs := [ld b91 0 (vI x81.System)]) (v := vI x81.System) ⟨by kernel_rfl⟩ (fun w_ hM => ⟨hM.cell 0 rfl rfl, rfl⟩) ?_
            refine oQ [oT 3] [(187, vP b91 1), (186, vI x81.System), (184, .map (some g12)), (25, vI i79), (26, vP b91 0), (12, .map (some g12)), (22, sl (sa g89) x71 c74), (177, sl (sa g89) x71 c74), (178, vI (x71.length : Int)), (179, vI i79)] (by kernel_rfl) ?_
            refine ops_load (d := some 188) (an := [.v (vI x81.Ent.N), .v (vI x81.Ent.Gen)]) (evs := [ld b91 1 (vI x81.Ent.N), ld b91 2 (vI x81.Ent.Gen)]) (v := .agg #[vI x81.Ent.N, vI x81.Ent.Gen]) ⟨by kernel_rfl⟩ (fun w_ hM => ⟨hM.cell 0 rfl rfl, hM.cell 0 rfl rfl, rfl⟩) ?_
            refine oQ [oT 5] [(189, .agg #[vI x81.System, vI x81.Ent.N, vI x81.Ent.Gen, vI 0]), (184, .map (some g12)), (25, vI i79), (26, vP b91 0), (12, .map (some g12)), (22, sl (sa g89) x71 c74), (177, sl (sa g89) x71 c74), (178, vI (x71.length : Int)), (179, vI i79)] (by kernel_rfl) ?_
            refine ops_load (d := some 191) (an := [.v (vI x81.System), .v (vI x81.Ent.N), .v (vI x81.Ent.Gen), .v (vI x81.Value)]) (evs := [ld b91 0 (vI x81.System), ld b91 1 (vI x81.Ent.N), ld b91 2 (vI x81.Ent.Gen), ld b91 3 (vI x81.Value)]) (v := .agg #[vI x81.System, vI x81.Ent.N, vI x81.Ent.Gen, vI x81.Value]) ⟨by kernel_rfl⟩ (fun w_ hM => ⟨hM.cell 0 rfl rfl, hM.cell 0 rfl rfl, hM.cell 0 rfl rfl, hM.cell 0 rfl rfl, rfl⟩) ?_
            obtain ⟨x92, hv93, hp⟩ := obind hp
            obtain ⟨vs94, hr95, hrun96⟩ := h34.get keyLaw_94 Try.underlying95 (api_Event.mk x81.System (api_Ent.mk x81.Ent.N x81.Ent.Gen) 0) (api_Event.mk 0 (api_Ent.mk 0 0) 0) ((enc_api_Event)) (fun u_ => Try.zeroValue94 u_)
            have hr95 : R_api_Event.rd F W x92 vs94 := by rw [← Option.some.inj hv93]; exact hr95
            obtain rfl := dec_api_Event hr95
            refine ops_law (op := (.lookup 95 (.tmp 184) (.tmp 189) false)) (d := some 190) (σ := Unit) (v := fun _ => .agg #[vI x92.System, vI x92.Ent.N, vI x92.Ent.Gen, vI x92.Value]) (M' := fun _ => Mem w0 (.blk b91 [vI x81.System, vI x81.Ent.N, vI x81.Ent.Gen, vI x81.Value] 94 :: .obj g12 (.map es31 ck32) :: ow (sa g89) x71 c74 94 4 y75 :: Fz F W :: cs)) ⟨by kernel_rfl⟩ (fun o_ w_ ho_ hM hS => ⟨(), w_, run_lookupV rfl rfl (hrun96 false g12 w_ (hM.mapAt 1 rfl)) o_ ho_, hM, hS⟩) (fun _ => ?_)
            refine ops_val (op := (.binOp Go.BinOp.neq 94 (.tmp 190) (.tmp 191) 94)) (d := some 192) (v := .bool (!(x92.System == x81.System && (x92.Ent.N == x81.Ent.N && (x92.Ent.Gen == x81.Ent.Gen && (x92.Value == x81.Value)))))) ⟨by kernel_rfl⟩ (run_neq_agg (r := x92.System == x81.System && (x92.Ent.N == x81.Ent.N && (x92.Ent.Gen == x81.Ent.Gen && (x92.Value == x81.Value)))) rfl rfl (by kernel_rfl) (fun w => eqA94 9997 w x92.System x81.System x92.Ent.N x81.Ent.N x92.Ent.Gen x81.Ent.Gen x92.Value x81.Value)) ?_
            refine oQ [oT 9] [(193, .bool (!(x92.System == x81.System && (x92.Ent.N == x81.Ent.N && (x92.Ent.Gen == x81.Ent.Gen && (x92.Value == x81.Value)))))), (25, vI i79), (26, vP b91 0), (12, .map (some g12)), (22, sl (sa g89) x71 c74), (177, sl (sa g89) x71 c74), (178, vI (x71.length : Int)), (179, vI i79)] (by kernel_rfl) ?_
            refine ops_bool (t := !(x92.System == x81.System && (x92.Ent.N == x81.Ent.N && (x92.Ent.Gen == x81.Ent.Gen && (x92.Value == x81.Value))))) (l1 := [(193, .bool true), (25, vI i79), (26, vP b91 0), (12, .map (some g12)), (22, sl (sa g89) x71 c74), (177, sl (sa g89) x71 c74), (178, vI (x71.length : Int)), (179, vI i79)]) (l2 := [(193, .bool false), (25, vI i79), (26, vP b91 0), (12, .map (some g12)), (22, sl (sa g89) x71 c74), (177, sl (sa g89) x71 c74), (178, vI (x71.length : Int)), (179, vI i79)]) (fun h => by rw [h]) (fun h => by rw [h]) (fun hc97 => ?_) (fun hc97 => ?_)
            ·
             have hp := cnd_t hc97 hp
             refine oQ [oT 10, oT 11, oT 12, oT 13, oT 14, oT 15, oT 16, oT 17, oT 18, oF 19, oT 20, oT 21, oT 22] [(206, .bool true), (12, .map (some g12)), (22, sl (sa g89) x71 c74), (177, sl (sa g89) x71 c74), (178, vI (x71.length : Int)), (179, vI i79)] (by kernel_rfl) ?_
             refine ops_nil (fin_then (st_true rfl (st_seq (st_region [oF 0] (by rfl) ?_))))
             refine oQ [oF 0] [(8, .bool false)] (by kernel_rfl) ?_
             refine ops_nil (fin_then (st_ret (fin_ret_block (fin_ret_then (fin_ret_then (fin_ret_block (fin_ret_then ?_)))))))
             obtain hq_ := Option.some.inj hp
             subst hq_
             obtain hq_ := hd4 _ rfl
             subst hq_
             have hp : some false = some t9001 := hk4
             have hq_ := Option.some.inj hp
             have hr0_ := hq_
             subst hr0_
             refine fin_ret [.tmp 8] [.bool false] rfl rfl (fun w_ hM => (.tmp rfl .nil)) (fun w_ hM => ?_)
             exact ⟨trivial, rfl, hM.pick 4 [3] (by kernel_rfl) (by decide) rfl⟩
            ·
             have hp := cnd_f hc97 hp
             refine oQ [oT 10, oT 11, oT 12] [(196, .bool (decide (0 < i79))), (193, .bool false), (25, vI i79), (26, vP b91 0), (12, .map (some g12)), (22, sl (sa g89) x71 c74), (177, sl (sa g89) x71 c74), (178, vI (x71.length : Int)), (179, vI i79)] (by kernel_rfl) ?_
             refine ops_bool (t := decide (0 < i79)) (l1 := [(196, .bool true), (193, .bool false), (25, vI i79), (26, vP b91 0), (12, .map (some g12)), (22, sl (sa g89) x71 c74), (177, sl (sa g89) x71 c74), (178, vI (x71.length : Int)), (179, vI i79)]) (l2 := [(196, .bool false), (193, .bool false), (25, vI i79), (26, vP b91 0), (12, .map (some g12)), (22, sl (sa g89) x71 c74), (177, sl (sa g89) x71 c74), (178, vI (x71.length : Int)), (179, vI i79)]) (fun h => by rw [h]) (fun h => by rw [h]) (fun hc98 => ?_) (fun hc98 => ?_)
             ·
              have hp := cnd_t hc98 hp
              refine oQ [oT 13, oT 14, oT 15] [(199, vI (IntKind.i64.wrap (i79 - 1))), (197, sl (sa g89) x71 c74), (196, .bool true), (193, .bool false), (26, vP b91 0), (12, .map (some g12)), (22, sl (sa g89) x71 c74), (177, sl (sa g89) x71 c74), (178, vI (x71.length : Int)), (179, vI i79)] (by kernel_rfl) ?_
              obtain ⟨x99, hv100, hp⟩ := obind hp
              obtain ⟨m101, hm102, hx103⟩ := idx_some hv100
              have hl106 := (List.getElem?_eq_some_iff.1 hx103).1
              obtain ⟨vs104, hr105, hq107⟩ := h76.at_ m101 x99 hx103
              obtain rfl := dec_api_Event hr105
              refine ops_val (op := (.indexAddr 88 (.tmp 197) (.tmp 199))) (d := some 200) (v := vP g89 (m101 * 4)) ⟨by kernel_rfl⟩ (run_indexRow Try.underlying88 (z := 4) (by kernel_rfl) rfl rfl hm102 hl106 rfl) ?_
              refine ops_load (d := some 201) (an := [.v (vI x99.System), .v (vI x99.Ent.N), .v (vI x99.Ent.Gen), .v (vI x99.Value)]) (evs := [.load ⟨g89, m101 * 4, none⟩ (vI x99.System), .load ⟨g89, m101 * 4 + 1, none⟩ (vI x99.Ent.N), .load ⟨g89, m101 * 4 + 2, none⟩ (vI x99.Ent.Gen), .load ⟨g89, m101 * 4 + 3, none⟩ (vI x99.Value)]) (v := .agg #[vI x99.System, vI x99.Ent.N, vI x99.Ent.Gen, vI x99.Value]) ⟨by kernel_rfl⟩ (fun w_ hM => ⟨hM.ocell 2 rfl (hq107 0 _ rfl), hM.ocell 2 rfl (hq107 1 _ rfl), hM.ocell 2 rfl (hq107 2 _ rfl), hM.ocell 2 rfl (hq107 3 _ rfl), rfl⟩) ?_
              refine ops_load (d := some 202) (an := [.v (vI x81.System), .v (vI x81.Ent.N), .v (vI x81.Ent.Gen), .v (vI x81.Value)]) (evs := [ld b91 0 (vI x81.System), ld b91 1 (vI x81.Ent.N), ld b91 2 (vI x81.Ent.Gen), ld b91 3 (vI x81.Value)]) (v := .agg #[vI x81.System, vI x81.Ent.N, vI x81.Ent.Gen, vI x81.Value]) ⟨by kernel_rfl⟩ (fun w_ hM => ⟨hM.cell 0 rfl rfl, hM.cell 0 rfl rfl, hM.cell 0 rfl rfl, hM.cell 0 rfl rfl, rfl⟩) ?_
              obtain ⟨x108, hv109, hp⟩ := obind hp
              refine ops_callI (σ := Unit) (d := some 203) (f := 55) (args := #[.agg #[vI x99.System, vI x99.Ent.N, vI x99.Ent.Gen, vI x99.Value], .agg #[vI x81.System, vI x81.Ent.N, vI x81.Ent.Gen, vI x81.Value]]) (v := (fun _ => .bool x108)) (I := (fun _ => True)) (M' := (fun _ => Mem w0 (.blk b91 [vI x81.System, vI x81.Ent.N, vI x81.Ent.Gen, vI x81.Value] 94 :: .obj g12 (.map es31 ck32) :: ow (sa g89) x71 c74 94 4 y75 :: Fz F W :: cs))) ⟨by kernel_rfl⟩ (fun w_ hM hS => (tourlaw3_ahead_ok w0 w_ (.blk b91 [vI x81.System, vI x81.Ent.N, vI x81.Ent.Gen, vI x81.Value] 94 :: .obj g12 (.map es31 ck32) :: ow (sa g89) x71 c74 94 4 y75 :: cs) F W x99.System x99.Ent.N x99.Ent.Gen x99.Value x81.System x81.Ent.N x81.Ent.Gen x81.Value (hM.pick 4 [3, 0, 1, 2] (by kernel_rfl) (by decide) rfl)  x108 hv109).mono (by rintro e w' ⟨-, rfl, h'⟩; have h' : Mem w0 (.blk b91 [vI x81.System, vI x81.Ent.N, vI x81.Ent.Gen, vI x81.Value] 94 :: .obj g12 (.map es31 ck32) :: ow (sa g89) x71 c74 94 4 y75 :: Fz F W :: cs) w' := (h'.pick 4 [1, 2, 3, 0] (by kernel_rfl) (by decide) rfl); exact ⟨(), trivial, rfl, h', (by exact h'.sub (.cons_cons _ (.cons_cons _ (.cons_cons _ (.cons_cons _ (.refl _))))))⟩)) ?_
              rintro _ -
              refine oQ [oT 20, oT 21, oT 22] [(206, .bool (!x108)), (12, .map (some g12)), (22, sl (sa g89) x71 c74), (177, sl (sa g89) x71 c74), (178, vI (x71.length : Int)), (179, vI i79)] (by kernel_rfl) ?_
              refine ops_nil (fin_then ?_)
              refine st_if (b := !x108) rfl (fun hc110 => ?_) (fun hc110 => ?_)
              ·
               have hp := cnd_t hc110 hp
               refine st_seq (st_region [oF 0] (by rfl) ?_)
               refine oQ [oF 0] [(8, .bool false)] (by kernel_rfl) ?_
               refine ops_nil (fin_then (st_ret (fin_ret_block (fin_ret_then (fin_ret_then (fin_ret_block (fin_ret_then ?_)))))))
               obtain hq_ := Option.some.inj hp
               subst hq_
               obtain hq_ := hd4 _ rfl
               subst hq_
               have hp : some false = some t9001 := hk4
               have hq_ := Option.some.inj hp
               have hr0_ := hq_
               subst hr0_
               refine fin_ret [.tmp 8] [.bool false] rfl rfl (fun w_ hM => (.tmp rfl .nil)) (fun w_ hM => ?_)
               exact ⟨trivial, rfl, hM.pick 4 [3] (by kernel_rfl) (by decide) rfl⟩
              ·
               have hp := cnd_f hc110 hp
               refine st_skip (fin_block ?_)
               exact fin_join HJ5 () hp (look_has ⟨rfl, rfl, rfl, rfl, rfl, trivial⟩) (fun w_ hM => hM.pick 4 [1, 2, 3] (by kernel_rfl) (by decide) rfl)
             ·
              have hp := cnd_f hc98 hp
              refine oQ [oT 13, oT 14, oT 15, oT 16, oT 17, oT 18, oF 19, oT 20, oT 21, oT 22] [(206, .bool false), (12, .map (some g12)), (22, sl (sa g89) x71 c74), (177, sl (sa g89) x71 c74), (178, vI (x71.length : Int)), (179, vI i79)] (by kernel_rfl) ?_
              refine ops_nil (fin_then (st_false rfl (st_skip (fin_block ?_))))
              exact fin_join HJ5 () hp (look_has ⟨rfl, rfl, rfl, rfl, rfl, trivial⟩) (fun w_ hM => hM.pick 4 [1, 2, 3] (by kernel_rfl) (by decide) rfl)
          ·
           have hp := cnd_f hc80 hp
           refine st_exit (fin_exit_then (fin_exit_then (fin_exit ?_)))
           obtain hq_ := Option.some.inj hp
           subst hq_
           obtain hq_ := hd4 _ rfl
           subst hq_
           have hp : tourlaw3_EventFilters_j3 = some t9001 := hk4
           exact fin_join HJ3 () hp (look_has trivial) (fun w_ hM => hM.pick 3 [2] (by kernel_rfl) (by decide) rfl)
        ·
         intro HJ2
         refine st_seq (st_seq (st_region [oF 0, oF 1, oF 2] (by rfl) ?_))
         refine oQ [oF 0, oF 1, oF 2] [(149, vI 0), (148, vI (x65.length : Int)), (147, sl A67 x65 c68), (22, sl A73 x71 c74), (21, sl A67 x65 c68), (12, .map (some g12)), (13, .map (some g14))] (by kernel_rfl) ?_
         refine ops_nil (fin_then (st_block ?_))
         obtain ⟨r6, hl6, hk6⟩ := obind hp
         refine st_loopP (σ := Int) (ρ := (Bool ⊕ Unit)) (γ := Unit) hl6 () (fun s_ g_ => match s_, g_ with | i111, _ => [(12, .map (some g12)), (13, .map (some g14)), (21, sl A67 x65 c68), (22, sl A73 x71 c74), (147, sl A67 x65 c68), (148, vI (x65.length : Int)), (149, vI i111)]) (fun s_ g_ => match s_, g_ with | i111, _ => Mem w0 (.obj g12 (.map es31 ck32) :: .obj g14 (.map es35 ck36) :: ow A67 x65 c68 103 2 y69 :: ow A73 x71 c74 94 4 y75 :: Fz F W :: cs)) (fun s_ g_ => match s_, g_ with | i111, _ => True) trivial (look_has ⟨rfl, rfl, rfl, rfl, rfl, rfl, rfl, trivial⟩) (fun w_ hM => hM.pick 13 [10, 11, 1, 0, 12] (by kernel_rfl) (by decide) rfl) ?_
         rintro i111 _ o6 - hs_ hd6
         have hp : (tourlaw3_EventFilters_l6 x65 l37) i111 = some o6 := hs_
         clear hs_
         unfold tourlaw3_EventFilters_l6 at hp
         refine st_seq (st_region [oF 0] (by rfl) ?_)
         refine oQ [oF 0] [(150, .bool (decide (i111 < (x65.length : Int)))), (12, .map (some g12)), (13, .map (some g14)), (21, sl A67 x65 c68), (22, sl A73 x71 c74), (147, sl A67 x65 c68), (148, vI (x65.length : Int)), (149, vI i111)] (by kernel_rfl) ?_
         refine ops_nil (fin_then (st_seq ?_))
         refine st_if (b := decide (i111 < (x65.length : Int))) rfl (fun hc112 => ?_) (fun hc112 => ?_)
         ·
          have hp := cnd_t hc112 hp
          refine st_skip (fin_then ?_)
          refine st_join1 (σ := Unit) (L := fun _ => [(12, .map (some g12)), (13, .map (some g14)), (21, sl A67 x65 c68), (22, sl A73 x71 c74), (147, sl A67 x65 c68), (148, vI (x65.length : Int)), (149, vI i111)]) (N := fun _ => Mem w0 (.obj g12 (.map es31 ck32) :: .obj g14 (.map es35 ck36) :: ow A67 x65 c68 103 2 y69 :: ow A73 x71 c74 94 4 y75 :: Fz F W :: cs)) (I := fun _ => ((tourlaw3_EventFilters_j7 i111) = some o6)) ?_ ?_
          ·
           rintro _ hp
           unfold tourlaw3_EventFilters_j7 at hp
           refine st_region [oF 0, oF 1] (by rfl) ?_
           refine oQ [oF 0, oF 1] [(149, vI (IntKind.i64.wrap (i111 + 1))), (12, .map (some g12)), (13, .map (some g14)), (21, sl A67 x65 c68), (22, sl A73 x71 c74), (147, sl A67 x65 c68), (148, vI (x65.length : Int))] (by kernel_rfl) ?_
           refine ops_nil ?_
           exact fin_again (IntKind.i64.wrap (i111 + 1)) () (Option.some.inj hp).symm trivial (look_has ⟨rfl, rfl, rfl, rfl, rfl, rfl, rfl, trivial⟩) (fun w_ hM => hM)
          ·
           intro HJ7
           refine st_seq (st_block (st_seq (st_region [oF 0, oF 1, oF 2, oF 3, oF 4, oF 5] (by rfl) ?_)))
           refine oQ [oF 0] [(151, vI i111), (12, .map (some g12)), (13, .map (some g14)), (21, sl A67 x65 c68), (22, sl A73 x71 c74), (147, sl A67 x65 c68), (148, vI (x65.length : Int)), (149, vI i111)] (by kernel_rfl) ?_
           obtain ⟨x113, hv114, hp⟩ := obind hp
           obtain ⟨m115, hm116, hx117⟩ := idx_some hv114
           have hl120 := (List.getElem?_eq_some_iff.1 hx117).1
           refine ops_fact (fun w_ hM => hM.orowSome 2 rfl (Nat.lt_of_le_of_lt (Nat.zero_le _) hl120)) ?_
           rintro ⟨g121, rfl, -⟩
           obtain ⟨vs118, hr119, hq122⟩ := h70.at_ m115 x113 hx117
           obtain rfl := dec_event_Count hr119
           refine ops_val (op := (.indexAddr 91 (.tmp 147) (.tmp 149))) (d := some 152) (v := vP g121 (m115 * 2)) ⟨by kernel_rfl⟩ (run_indexRow Try.underlying91 (z := 2) (by kernel_rfl) rfl rfl hm116 hl120 rfl) ?_
           refine ops_mem (d := some 153) (an := [.v (vI x113.System), .v (vI x113.N)]) (evs := [.load ⟨g121, m115 * 2, none⟩ (vI x113.System), .load ⟨g121, m115 * 2 + 1, none⟩ (vI x113.N)]) (v := .agg #[vI x113.System, vI x113.N]) ⟨by kernel_rfl⟩ (fun w_ hM hS => ⟨w_, ⟨hM.ocell 2 rfl (hq122 0 _ rfl), hM.ocell 2 rfl (hq122 1 _ rfl), rfl⟩, hM, trivial⟩) ?_
           refine ops_newB (d := some 24) [vI 0, vI 0] 103 (fun b123 => ⟨by kernel_rfl⟩) (fun w_ hM hS => trivial) (fun b123 => ?_)
           refine oQ [oF 4] [(23, vI i111), (24, vP b123 0), (153, .agg #[vI x113.System, vI x113.N]), (12, .map (some g12)), (13, .map (some g14)), (21, sl (sa g121) x65 c68), (22, sl A73 x71 c74), (147, sl (sa g121) x65 c68), (148, vI (x65.length : Int)), (149, vI i111)] (by kernel_rfl) ?_
           refine ops_store (an := []) (evs := [sr b123 0 (vI x113.System), sr b123 1 (vI x113.N)]) ⟨by kernel_rfl⟩ (fun w_ hM hS => let ⟨w', he, h'⟩ := hM.evs_stores [vI x113.System, vI x113.N] 0 rfl 0 (Nat.le_of_ble_eq_true rfl); ⟨w', he, h', trivial⟩) ?_
           refine ops_nil (fin_then (st_seq ?_))
           refine st_region_fast tourlaw3_EventFilters__t0 [oT 0, oT 1, oT 2, oT 4, oT 5, oF 3, oT 6, oT 7, oT 8, oT 9, oT 10, oT 11, oT 12, oT 13, oT 14, oT 15, oT 16, oT 17, oT 18, oT 19, oT 20, oT 21] (Mem w0 (.blk b123 [vI x113.System, vI x113.N] 103 :: .obj g12 (.map es31 ck32) :: .obj g14 (.map es35 ck36) :: ow (sa g121) x65 c68 103 2 y69 :: ow A73 x71 c74 94 4 y75 :: Fz F W :: cs)) (by kernel_rfl) (by kernel_rfl) (by kernel_rfl) (by kernel_rfl) (by kernel_rfl) (fun _ d _ _ _ h => by cases d <;> exact h) (M' := Mem w0 (.blk b123 [vI x113.System, vI x113.N] 103 :: .obj g12 (.map es31 ck32) :: .obj g14 (.map es35 ck36) :: ow (sa g121) x65 c68 103 2 y69 :: ow A73 x71 c74 94 4 y75 :: Fz F W :: cs)) (fun w_ hM => ⟨hM.drew, hM.drew.sub (.cons_cons _ (.cons_cons _ (.cons_cons _ (.cons_cons _ (.cons_cons _ (.cons_cons _ (.refl _)))))))⟩) ?_
           refine oQ [oT 0, oT 1] [(155, vP b123 0), (154, .map (some g14)), (23, vI i111), (24, vP b123 0), (12, .map (some g12)), (13, .map (some g14)), (21, sl (sa g121) x65 c68), (22, sl A73 x71 c74), (147, sl (sa g121) x65 c68), (148, vI (x65.length : Int)), (149, vI i111)] (by kernel_rfl) ?_
           refine ops_load (d := some 156) (an := [.v (vI x113.System)]) (evs := [ld b123 0 (vI x113.System)]) (v := vI x113.System) ⟨by kernel_rfl⟩ (fun w_ hM => ⟨hM.cell 0 rfl rfl, rfl⟩) ?_
           refine oQ [oT 4] [(158, vP b123 1), (156, vI x113.System), (154, .map (some g14)), (23, vI i111), (24, vP b123 0), (12, .map (some g12)), (13, .map (some g14)), (21, sl (sa g121) x65 c68), (22, sl A73 x71 c74), (147, sl (sa g121) x65 c68), (148, vI (x65.length : Int)), (149, vI i111)] (by kernel_rfl) ?_
           refine ops_load (d := some 159) (an := [.v (vI x113.N)]) (evs := [ld b123 1 (vI x113.N)]) (v := vI x113.N) ⟨by kernel_rfl⟩ (fun w_ hM => ⟨hM.cell 0 rfl rfl, rfl⟩) ?_
           obtain ⟨x124, hv125, hp⟩ := obind hp
           obtain ⟨vs126, hr127, hrun128⟩ := h38.get (KeyLaw.int Try.underlying3) Try.underlying96 x113.System 0 (rfl) (fun u_ => Try.zeroValue3 u_)
           have hr127 : (Rep.int .i64).rd F W x124 vs126 := by rw [← Option.some.inj hv125]; exact hr127
           obtain rfl := hr127
           refine ops_law (op := (.lookup 96 (.tmp 154) (.tmp 156) false)) (d := some 157) (σ := Unit) (v := fun _ => vI x124) (M' := fun _ => Mem w0 (.blk b123 [vI x113.System, vI x113.N] 103 :: .obj g12 (.map es31 ck32) :: .obj g14 (.map es35 ck36) :: ow (sa g121) x65 c68 103 2 y69 :: ow A73 x71 c74 94 4 y75 :: Fz F W :: cs)) ⟨by kernel_rfl⟩ (fun o_ w_ ho_ hM hS => ⟨(), w_, run_lookupV rfl rfl (hrun128 false g14 w_ (hM.mapAt 2 rfl)) o_ ho_, hM, hS⟩) (fun _ => ?_)
           refine oQ [oT 6, oT 7] [(161, .bool (!(x124 == x113.N))), (23, vI i111), (24, vP b123 0), (12, .map (some g12)), (13, .map (some g14)), (21, sl (sa g121) x65 c68), (22, sl A73 x71 c74), (147, sl (sa g121) x65 c68), (148, vI (x65.length : Int)), (149, vI i111)] (by kernel_rfl) ?_
           refine ops_bool (t := !(x124 == x113.N)) (l1 := [(161, .bool true), (23, vI i111), (24, vP b123 0), (12, .map (some g12)), (13, .map (some g14)), (21, sl (sa g121) x65 c68), (22, sl A73 x71 c74), (147, sl (sa g121) x65 c68), (148, vI (x65.length : Int)), (149, vI i111)]) (l2 := [(161, .bool false), (23, vI i111), (24, vP b123 0), (12, .map (some g12)), (13, .map (some g14)), (21, sl (sa g121) x65 c68), (22, sl A73 x71 c74), (147, sl (sa g121) x65 c68), (148, vI (x65.length : Int)), (149, vI i111)]) (fun h => by rw [h]) (fun h => by rw [h]) (fun hc129 => ?_) (fun hc129 => ?_)
           ·
            have hp := cnd_t hc129 hp
            refine oQ [oT 8, oT 9, oT 10, oT 11, oT 12, oT 13, oT 14, oT 15, oT 16, oT 17, oT 18, oT 19, oT 20, oT 21] [(175, .bool true), (12, .map (some g12)), (13, .map (some g14)), (21, sl (sa g121) x65 c68), (22, sl A73 x71 c74), (147, sl (sa g121) x65 c68), (148, vI (x65.length : Int)), (149, vI i111)] (by kernel_rfl) ?_
            refine ops_nil (fin_then (st_true rfl (st_seq (st_region [oF 0] (by rfl) ?_))))
            refine oQ [oF 0] [(8, .bool false)] (by kernel_rfl) ?_
            refine ops_nil (fin_then (st_ret (fin_ret_block (fin_ret_then (fin_ret_then (fin_ret_block (fin_ret_then ?_)))))))
            obtain hq_ := Option.some.inj hp
            subst hq_
            obtain hq_ := hd6 _ rfl
            subst hq_
            have hp : some false = some t9001 := hk6
            have hq_ := Option.some.inj hp
            have hr0_ := hq_
            subst hr0_
            refine fin_ret [.tmp 8] [.bool false] rfl rfl (fun w_ hM => (.tmp rfl .nil)) (fun w_ hM => ?_)
            exact ⟨trivial, rfl, hM.pick 6 [5] (by kernel_rfl) (by decide) rfl⟩
           ·
            have hp := cnd_f hc129 hp
            refine oQ [oT 8, oT 9, oT 10] [(164, .bool (decide (0 < i111))), (161, .bool false), (23, vI i111), (24, vP b123 0), (12, .map (some g12)), (13, .map (some g14)), (21, sl (sa g121) x65 c68), (22, sl A73 x71 c74), (147, sl (sa g121) x65 c68), (148, vI (x65.length : Int)), (149, vI i111)] (by kernel_rfl) ?_
            refine ops_bool (t := decide (0 < i111)) (l1 := [(164, .bool true), (161, .bool false), (23, vI i111), (24, vP b123 0), (12, .map (some g12)), (13, .map (some g14)), (21, sl (sa g121) x65 c68), (22, sl A73 x71 c74), (147, sl (sa g121) x65 c68), (148, vI (x65.length : Int)), (149, vI i111)]) (l2 := [(164, .bool false), (161, .bool false), (23, vI i111), (24, vP b123 0), (12, .map (some g12)), (13, .map (some g14)), (21, sl (sa g121) x65 c68), (22, sl A73 x71 c74), (147, sl (sa g121) x65 c68), (148, vI (x65.length : Int)), (149, vI i111)]) (fun h => by rw [h]) (fun h => by rw [h]) (fun hc130 => ?_) (fun hc130 => ?_)
            ·
             have hp := cnd_t hc130 hp
             refine oQ [oT 11, oT 12, oT 13] [(167, vI (IntKind.i64.wrap (i111 - 1))), (165, sl (sa g121) x65 c68), (164, .bool true), (161, .bool false), (24, vP b123 0), (12, .map (some g12)), (13, .map (some g14)), (21, sl (sa g121) x65 c68), (22, sl A73 x71 c74), (147, sl (sa g121) x65 c68), (148, vI (x65.length : Int)), (149, vI i111)] (by kernel_rfl) ?_
             obtain ⟨x131, hv132, hp⟩ := obind hp
             obtain ⟨m133, hm134, hx135⟩ := idx_some hv132
             have hl138 := (List.getElem?_eq_some_iff.1 hx135).1
             obtain ⟨vs136, hr137, hq139⟩ := h70.at_ m133 x131 hx135
             obtain rfl := dec_event_Count hr137
             refine ops_val (op := (.indexAddr 91 (.tmp 165) (.tmp 167))) (d := some 168) (v := vP g121 (m133 * 2)) ⟨by kernel_rfl⟩ (run_indexRow Try.underlying91 (z := 2) (by kernel_rfl) rfl rfl hm134 hl138 rfl) ?_
             refine oQ [oT 15] [(169, vP g121 (m133 * 2)), (164, .bool true), (161, .bool false), (24, vP b123 0), (12, .map (some g12)), (13, .map (some g14)), (21, sl (sa g121) x65 c68), (22, sl A73 x71 c74), (147, sl (sa g121) x65 c68), (148, vI (x65.length : Int)), (149, vI i111)] (by kernel_rfl) ?_
             refine ops_load (d := some 170) (an := [.v (vI x131.System)]) (evs := [.load ⟨g121, m133 * 2, none⟩ (vI x131.System)]) (v := vI x131.System) ⟨by kernel_rfl⟩ (fun w_ hM => ⟨hM.ocell 3 rfl (hq139 0 _ rfl), rfl⟩) ?_
             refine oQ [oT 17] [(171, vP b123 0), (170, vI x131.System), (164, .bool true), (161, .bool false), (12, .map (some g12)), (13, .map (some g14)), (21, sl (sa g121) x65 c68), (22, sl A73 x71 c74), (147, sl (sa g121) x65 c68), (148, vI (x65.length : Int)), (149, vI i111)] (by kernel_rfl) ?_
             refine ops_load (d := some 172) (an := [.v (vI x113.System)]) (evs := [ld b123 0 (vI x113.System)]) (v := vI x113.System) ⟨by kernel_rfl⟩ (fun w_ hM => ⟨hM.cell 0 rfl rfl, rfl⟩) ?_
             refine oQ [oT 19, oT 20, oT 21] [(175, .bool (decide (x113.System ≤ x131.System))), (12, .map (some g12)), (13, .map (some g14)), (21, sl (sa g121) x65 c68), (22, sl A73 x71 c74), (147, sl (sa g121) x65 c68), (148, vI (x65.length : Int)), (149, vI i111)] (by kernel_rfl) ?_
             refine ops_nil (fin_then ?_)
             refine st_if (b := decide (x113.System ≤ x131.System)) rfl (fun hc140 => ?_) (fun hc140 => ?_)
             ·
              have hp := cnd_t hc140 hp
              refine st_seq (st_region [oF 0] (by rfl) ?_)
              refine oQ [oF 0] [(8, .bool false)] (by kernel_rfl) ?_
              refine ops_nil (fin_then (st_ret (fin_ret_block (fin_ret_then (fin_ret_then (fin_ret_block (fin_ret_then ?_)))))))
              obtain hq_ := Option.some.inj hp
              subst hq_
              obtain hq_ := hd6 _ rfl
              subst hq_
              have hp : some false = some t9001 := hk6
              have hq_ := Option.some.inj hp
              have hr0_ := hq_
              subst hr0_
              refine fin_ret [.tmp 8] [.bool false] rfl rfl (fun w_ hM => (.tmp rfl .nil)) (fun w_ hM => ?_)
              exact ⟨trivial, rfl, hM.pick 6 [5] (by kernel_rfl) (by decide) rfl⟩
             ·
              have hp := cnd_f hc140 hp
              refine st_skip (fin_block ?_)
              exact fin_join HJ7 () hp (look_has ⟨rfl, rfl, rfl, rfl, rfl, rfl, rfl, trivial⟩) (fun w_ hM => hM.pick 6 [1, 2, 3, 4, 5] (by kernel_rfl) (by decide) rfl)
            ·
             have hp := cnd_f hc130 hp
             refine oQ [oT 11, oT 12, oT 13, oT 14, oT 15, oT 16, oT 17, oT 18, oT 19, oT 20, oT 21] [(175, .bool false), (12, .map (some g12)), (13, .map (some g14)), (21, sl (sa g121) x65 c68), (22, sl A73 x71 c74), (147, sl (sa g121) x65 c68), (148, vI (x65.length : Int)), (149, vI i111)] (by kernel_rfl) ?_
             refine ops_nil (fin_then (st_false rfl (st_skip (fin_block ?_))))
             exact fin_join HJ7 () hp (look_has ⟨rfl, rfl, rfl, rfl, rfl, rfl, rfl, trivial⟩) (fun w_ hM => hM.pick 6 [1, 2, 3, 4, 5] (by kernel_rfl) (by decide) rfl)
         ·
          have hp := cnd_f hc112 hp
          refine st_exit (fin_exit_then (fin_exit_then (fin_exit ?_)))
          obtain hq_ := Option.some.inj hp
          subst hq_
          obtain hq_ := hd6 _ rfl
          subst hq_
          have hp : (tourlaw3_EventFilters_j2 x71 l33) = some t9001 := hk6
          exact fin_join HJ2 () hp (look_has ⟨rfl, rfl, trivial⟩) (fun w_ hM => hM.pick 5 [0, 3, 4] (by kernel_rfl) (by decide) rfl)
  ·
   intro HJ1
   refine st_seq (st_seq (st_region [oF 0, oF 1, oF 2] (by rfl) ?_))
   refine oQ [oF 0, oF 1, oF 2] [(37, vI 0), (36, vI (l.length : Int)), (35, sl A_l l c_l), (13, .map (some g14)), (12, .map (some g12)), (11, .slice none 0 0), (10, .slice none 0 0), (9, .slice none 0 0), (7, vP b2 0), (4, vP b1 0), (1, sl A_l l c_l), (2, vI s)] (by kernel_rfl) ?_
   refine ops_nil (fin_then (st_block ?_))
   refine st_conv (l' := [(37, vI 0), (36, vI (l.length : Int)), (35, sl A_l l c_l), (13, .map (some g14)), (12, .map (some g12)), (11, .slice none 0 0), (10, .slice none 0 0), (9, .slice none 0 0), (7, vP b2 0), (4, vP b1 0), (1, sl A_l l c_l), (2, vI s)]) (M' := Mem w0 (ow none ([] : List api_Event) 0 94 4 [] :: .obj g14 (.map #[] 0) :: .obj g12 (.map #[] 0) :: ow A7 x5 c8 103 2 y9 :: orow (sa g4) ([(api_Event.mk 0 (api_Ent.mk 0 0) 0), (api_Event.mk 0 (api_Ent.mk 0 0) 0)] : List api_Event).length 2 94 4 ([vI 0, vI 0, vI 0, vI 0, vI 0, vI 0, vI 0, vI 0]) :: .blk b2 [vI vals_0, vI vals_1] 90 :: .blk b1 [sl A_w_0 w_0 c_w_0, sl A_w_1 w_1 c_w_1, sl A_w_2 w_2 c_w_2] 26 :: Fz F W :: cs)) rfl (fun w_ h => h.onil none 94 4) ?_
   refine st_conv (l' := [(37, vI 0), (36, vI (l.length : Int)), (35, sl A_l l c_l), (13, .map (some g14)), (12, .map (some g12)), (11, .slice none 0 0), (10, .slice none 0 0), (9, .slice none 0 0), (7, vP b2 0), (4, vP b1 0), (1, sl A_l l c_l), (2, vI s)]) (M' := Mem w0 (ow none ([] : List api_Event) 0 94 4 [] :: ow none ([] : List api_Event) 0 94 4 [] :: .obj g14 (.map #[] 0) :: .obj g12 (.map #[] 0) :: ow A7 x5 c8 103 2 y9 :: orow (sa g4) ([(api_Event.mk 0 (api_Ent.mk 0 0) 0), (api_Event.mk 0 (api_Ent.mk 0 0) 0)] : List api_Event).length 2 94 4 ([vI 0, vI 0, vI 0, vI 0, vI 0, vI 0, vI 0, vI 0]) :: .blk b2 [vI vals_0, vI vals_1] 90 :: .blk b1 [sl A_w_0 w_0 c_w_0, sl A_w_1 w_1 c_w_1, sl A_w_2 w_2 c_w_2] 26 :: Fz F W :: cs)) rfl (fun w_ h => h.onil none 94 4) ?_
   refine st_conv (l' := [(37, vI 0), (36, vI (l.length : Int)), (35, sl A_l l c_l), (13, .map (some g14)), (12, .map (some g12)), (11, .slice none 0 0), (10, .slice none 0 0), (9, .slice none 0 0), (7, vP b2 0), (4, vP b1 0), (1, sl A_l l c_l), (2, vI s)]) (M' := Mem w0 (ow none ([] : List api_Event) 0 94 4 [] :: ow none ([] : List api_Event) 0 94 4 [] :: ow none ([] : List api_Event) 0 94 4 [] :: .obj g14 (.map #[] 0) :: .obj g12 (.map #[] 0) :: ow A7 x5 c8 103 2 y9 :: orow (sa g4) ([(api_Event.mk 0 (api_Ent.mk 0 0) 0), (api_Event.mk 0 (api_Ent.mk 0 0) 0)] : List api_Event).length 2 94 4 ([vI 0, vI 0, vI 0, vI 0, vI 0, vI 0, vI 0, vI 0]) :: .blk b2 [vI vals_0, vI vals_1] 90 :: .blk b1 [sl A_w_0 w_0 c_w_0, sl A_w_1 w_1 c_w_1, sl A_w_2 w_2 c_w_2] 26 :: Fz F W :: cs)) rfl (fun w_ h => h.onil none 94 4) ?_
   obtain ⟨r8, hl8, hk8⟩ := obind hp
   refine st_loopP (σ := (List api_Event) × (List api_Event) × (List api_Event) × (List (api_Event × api_Event)) × (List (Int × Int)) × Int) (ρ := (List api_Event) × (List api_Event) × (List api_Event) × (List (api_Event × api_Event)) × (List (Int × Int))) (γ := (Option Addr) × Nat × (List Value) × (Option Addr) × Nat × (List Value) × (Option Addr) × Nat × (List Value) × (Array MapEntry) × Nat × (Array MapEntry) × Nat) hl8 (none, 0, [], none, 0, [], none, 0, [], #[], 0, #[], 0) (fun s_ g_ => match s_, g_ with | (l143, l148, l153, l158, l162, i164), (A141, c142, y144, A146, c147, y149, A151, c152, y154, es156, ck157, es160, ck161) => [(1, sl A_l l c_l), (2, vI s), (4, vP b1 0), (7, vP b2 0), (9, sl A141 l143 c142), (10, sl A146 l148 c147), (11, sl A151 l153 c152), (12, .map (some g12)), (13, .map (some g14)), (35, sl A_l l c_l), (36, vI (l.length : Int)), (37, vI i164)]) (fun s_ g_ => match s_, g_ with | (l143, l148, l153, l158, l162, i164), (A141, c142, y144, A146, c147, y149, A151, c152, y154, es156, ck157, es160, ck161) => Mem w0 (.blk b1 [sl A_w_0 w_0 c_w_0, sl A_w_1 w_1 c_w_1, sl A_w_2 w_2 c_w_2] 26 :: .blk b2 [vI vals_0, vI vals_1] 90 :: ow A141 l143 c142 94 4 y144 :: ow A146 l148 c147 94 4 y149 :: ow A151 l153 c152 94 4 y154 :: .obj g12 (.map es156 ck157) :: .obj g14 (.map es160 ck161) :: Fz F W :: cs)) (fun s_ g_ => match s_, g_ with | (l143, l148, l153, l158, l162, i164), (A141, c142, y144, A146, c147, y149, A151, c152, y154, es156, ck157, es160, ck161) => (RepL R_api_Event F W l143 y144) ∧ (RepL R_api_Event F W l148 y149) ∧ (RepL R_api_Event F W l153 y154) ∧ (MapOK key_94 R_api_Event true F W l158 es156 ck157) ∧ (MapOK (fun x_ : Int => Value.int .i64 x_) (Rep.int .i64) false F W l162 es160 ck161)) ⟨(RepL.nil (R := R_api_Event)), (RepL.nil (R := R_api_Event)), (RepL.nil (R := R_api_Event)), h13, h15⟩ (look_has ⟨rfl, rfl, rfl, rfl, rfl, rfl, rfl, rfl, rfl, rfl, rfl, rfl, trivial⟩) (fun w_ hM => hM.pick 10 [8, 7, 2, 1, 0, 4, 3, 9] (by kernel_rfl) (by decide) rfl) ?_
   rintro ⟨l143, l148, l153, l158, l162, i164⟩ ⟨A141, c142, y144, A146, c147, y149, A151, c152, y154, es156, ck157, es160, ck161⟩ o8 ⟨h145, h150, h155, h159, h163⟩ hs_ hd8
   have hp : (tourlaw3_EventFilters_l8 l s vals_0 w_2 vals_1) l143 l148 l153 l158 l162 i164 = some o8 := hs_
   clear hs_
   unfold tourlaw3_EventFilters_l8 at hp
   refine st_seq (st_region [oF 0] (by rfl) ?_)
   refine oQ [oF 0] [(38, .bool (decide (i164 < (l.length : Int)))), (1, sl A_l l c_l), (2, vI s), (4, vP b1 0), (7, vP b2 0), (9, sl A141 l143 c142), (10, sl A146 l148 c147), (11, sl A151 l153 c152), (12, .map (some g12)), (13, .map (some g14)), (35, sl A_l l c_l), (36, vI (l.length : Int)), (37, vI i164)] (by kernel_rfl) ?_
   refine ops_nil (fin_then (st_seq ?_))
   refine st_if (b := decide (i164 < (l.length : Int))) rfl (fun hc165 => ?_) (fun hc165 => ?_)
   ·
    have hp := cnd_t hc165 hp
    refine st_skip (fin_then (st_seq (st_block (st_seq (st_region [oF 0, oF 1, oF 2, oF 3] (by rfl) ?_)))))
    obtain ⟨x166, hv167, hp⟩ := obind hp
    obtain ⟨m168, hm169, hx170⟩ := idx_some hv167
    have hl173 := (List.getElem?_eq_some_iff.1 hx170).1
    obtain ⟨ad174, vs171, hA175, hr172, hq176⟩ := RdS.el h_l hx170
    obtain rfl := dec_api_Event hr172
    refine ops_val (op := (.indexAddr 88 (.tmp 35) (.tmp 37))) (d := some 39) (v := .pointer (some (ad174.add (m168 * 4)))) ⟨by kernel_rfl⟩ (run_indexA hA175 Try.underlying88 (z := 4) (by kernel_rfl) rfl rfl hm169 hl173) ?_
    refine ops_mem (d := some 40) (an := [.v (vI x166.System), .v (vI x166.Ent.N), .v (vI x166.Ent.Gen), .v (vI x166.Value)]) (evs := [.load (ad174.add (m168 * 4)) (vI x166.System), .load ((ad174.add (m168 * 4)).add 1) (vI x166.Ent.N), .load ((ad174.add (m168 * 4)).add 2) (vI x166.Ent.Gen), .load ((ad174.add (m168 * 4)).add 3) (vI x166.Value)]) (v := .agg #[vI x166.System, vI x166.Ent.N, vI x166.Ent.Gen, vI x166.Value]) ⟨by kernel_rfl⟩ (fun w_ hM hS => ⟨w_, ⟨hM.elcell 7 rfl hq176 0 rfl, hM.elcell 7 rfl hq176 1 rfl, hM.elcell 7 rfl hq176 2 rfl, hM.elcell 7 rfl hq176 3 rfl, rfl⟩, hM, trivial⟩) ?_
    refine ops_newB (d := some 15) [vI 0, vI 0, vI 0, vI 0] 94 (fun b177 => ⟨by kernel_rfl⟩) (fun w_ hM hS => trivial) (fun b177 => ?_)
    refine ops_store (an := []) (evs := [sr b177 0 (vI x166.System), sr b177 1 (vI x166.Ent.N), sr b177 2 (vI x166.Ent.Gen), sr b177 3 (vI x166.Value)]) ⟨by kernel_rfl⟩ (fun w_ hM hS => let ⟨w', he, h'⟩ := hM.evs_stores [vI x166.System, vI x166.Ent.N, vI x166.Ent.Gen, vI x166.Value] 0 rfl 0 (Nat.le_of_ble_eq_true rfl); ⟨w', he, h', trivial⟩) ?_
    refine ops_nil (fin_then ?_)
    refine st_join1 (σ := (Option Addr) × Nat × (List api_Event) × (List Value)) (L := fun x_ => match x_ with | (A178, c179, l180, y181) => [(1, sl A_l l c_l), (2, vI s), (4, vP b1 0), (7, vP b2 0), (9, sl A178 l180 c179), (10, sl A146 l148 c147), (11, sl A151 l153 c152), (12, .map (some g12)), (13, .map (some g14)), (15, vP b177 0), (35, sl A_l l c_l), (36, vI (l.length : Int)), (37, vI i164)]) (N := fun x_ => match x_ with | (A178, c179, l180, y181) => Mem w0 (.blk b1 [sl A_w_0 w_0 c_w_0, sl A_w_1 w_1 c_w_1, sl A_w_2 w_2 c_w_2] 26 :: .blk b2 [vI vals_0, vI vals_1] 90 :: ow A178 l180 c179 94 4 y181 :: ow A146 l148 c147 94 4 y149 :: ow A151 l153 c152 94 4 y154 :: .obj g12 (.map es156 ck157) :: .obj g14 (.map es160 ck161) :: .blk b177 [vI x166.System, vI x166.Ent.N, vI x166.Ent.Gen, vI x166.Value] 94 :: Fz F W :: cs)) (I := fun x_ => match x_ with | (A178, c179, l180, y181) => ((tourlaw3_EventFilters_j9 w_2 x166 l148 l158 l162 i164 l153) l180 = some o8) ∧ (RepL R_api_Event F W l180 y181)) ?_ ?_
    ·
     rintro ⟨A178, c179, l180, y181⟩ ⟨hp, h182⟩
     unfold tourlaw3_EventFilters_j9 at hp
     refine st_seq (st_region [oF 0] (by rfl) ?_)
     refine oQ [oF 0] [(16, .bool false), (1, sl A_l l c_l), (2, vI s), (4, vP b1 0), (7, vP b2 0), (9, sl A178 l180 c179), (10, sl A146 l148 c147), (11, sl A151 l153 c152), (12, .map (some g12)), (13, .map (some g14)), (15, vP b177 0), (35, sl A_l l c_l), (36, vI (l.length : Int)), (37, vI i164)] (by kernel_rfl) ?_
     refine ops_nil (fin_then ?_)
     refine st_join1 (σ := Bool) (L := fun x_ => match x_ with | t183 => [(1, sl A_l l c_l), (2, vI s), (4, vP b1 0), (7, vP b2 0), (9, sl A178 l180 c179), (10, sl A146 l148 c147), (11, sl A151 l153 c152), (12, .map (some g12)), (13, .map (some g14)), (15, vP b177 0), (16, .bool t183), (35, sl A_l l c_l), (36, vI (l.length : Int)), (37, vI i164)]) (N := fun x_ => match x_ with | t183 => Mem w0 (.blk b1 [sl A_w_0 w_0 c_w_0, sl A_w_1 w_1 c_w_1, sl A_w_2 w_2 c_w_2] 26 :: .blk b2 [vI vals_0, vI vals_1] 90 :: ow A178 l180 c179 94 4 y181 :: ow A146 l148 c147 94 4 y149 :: ow A151 l153 c152 94 4 y154 :: .obj g12 (.map es156 ck157) :: .obj g14 (.map es160 ck161) :: .blk b177 [vI x166.System, vI x166.Ent.N, vI x166.Ent.Gen, vI x166.Value] 94 :: Fz F W :: cs)) (I := fun x_ => match x_ with | t183 => ((tourlaw3_EventFilters_j10 l148 x166 l158 l162 l180 i164 l153) t183 = some o8)) ?_ ?_
     ·
      rintro t183 hp
      unfold tourlaw3_EventFilters_j10 at hp
      refine st_join1 (σ := (Option Addr) × Nat × (List api_Event) × (List Value) × (Option Addr) × Nat × (List api_Event) × (List Value)) (L := fun x_ => match x_ with | (A184, c185, l186, y187, A189, c190, l191, y192) => [(1, sl A_l l c_l), (2, vI s), (4, vP b1 0), (7, vP b2 0), (9, sl A178 l180 c179), (10, sl A184 l186 c185), (11, sl A189 l191 c190), (12, .map (some g12)), (13, .map (some g14)), (15, vP b177 0), (35, sl A_l l c_l), (36, vI (l.length : Int)), (37, vI i164)]) (N := fun x_ => match x_ with | (A184, c185, l186, y187, A189, c190, l191, y192) => Mem w0 (.blk b1 [sl A_w_0 w_0 c_w_0, sl A_w_1 w_1 c_w_1, sl A_w_2 w_2 c_w_2] 26 :: .blk b2 [vI vals_0, vI vals_1] 90 :: ow A178 l180 c179 94 4 y181 :: ow A184 l186 c185 94 4 y187 :: ow A189 l191 c190 94 4 y192 :: .obj g12 (.map es156 ck157) :: .obj g14 (.map es160 ck161) :: .blk b177 [vI x166.System, vI x166.Ent.N, vI x166.Ent.Gen, vI x166.Value] 94 :: Fz F W :: cs)) (I := fun x_ => match x_ with | (A184, c185, l186, y187, A189, c190, l191, y192) => ((tourlaw3_EventFilters_j11 l158 x166 l162 l180 i164) l186 l191 = some o8) ∧ (RepL R_api_Event F W l186 y187) ∧ (RepL R_api_Event F W l191 y192)) ?_ ?_
      ·
       rintro ⟨A184, c185, l186, y187, A189, c190, l191, y192⟩ ⟨hp, h188, h193⟩
       unfold tourlaw3_EventFilters_j11 at hp
       refine st_seq (st_region [oF 0, oF 1, oF 2, oF 3, oF 4, oF 5, oF 6, oF 7] (by rfl) ?_)
       refine oQ [oF 0, oF 1] [(94, vP b177 0), (93, .map (some g12)), (1, sl A_l l c_l), (2, vI s), (4, vP b1 0), (7, vP b2 0), (9, sl A178 l180 c179), (10, sl A184 l186 c185), (11, sl A189 l191 c190), (12, .map (some g12)), (13, .map (some g14)), (15, vP b177 0), (35, sl A_l l c_l), (36, vI (l.length : Int)), (37, vI i164)] (by kernel_rfl) ?_
       refine ops_mem (d := some 95) (an := [.v (vI x166.System)]) (evs := [ld b177 0 (vI x166.System)]) (v := vI x166.System) ⟨by kernel_rfl⟩ (fun w_ hM hS => ⟨w_, ⟨hM.cell 7 rfl rfl, rfl⟩, hM, trivial⟩) ?_
       refine oQ [oF 3] [(96, vP b177 1), (95, vI x166.System), (93, .map (some g12)), (1, sl A_l l c_l), (2, vI s), (4, vP b1 0), (7, vP b2 0), (9, sl A178 l180 c179), (10, sl A184 l186 c185), (11, sl A189 l191 c190), (12, .map (some g12)), (13, .map (some g14)), (15, vP b177 0), (35, sl A_l l c_l), (36, vI (l.length : Int)), (37, vI i164)] (by kernel_rfl) ?_
       refine ops_mem (d := some 97) (an := [.v (vI x166.Ent.N), .v (vI x166.Ent.Gen)]) (evs := [ld b177 1 (vI x166.Ent.N), ld b177 2 (vI x166.Ent.Gen)]) (v := .agg #[vI x166.Ent.N, vI x166.Ent.Gen]) ⟨by kernel_rfl⟩ (fun w_ hM hS => ⟨w_, ⟨hM.cell 7 rfl rfl, hM.cell 7 rfl rfl, rfl⟩, hM, trivial⟩) ?_
       refine oQ [oF 5] [(98, .agg #[vI x166.System, vI x166.Ent.N, vI x166.Ent.Gen, vI 0]), (93, .map (some g12)), (1, sl A_l l c_l), (2, vI s), (4, vP b1 0), (7, vP b2 0), (9, sl A178 l180 c179), (10, sl A184 l186 c185), (11, sl A189 l191 c190), (12, .map (some g12)), (13, .map (some g14)), (15, vP b177 0), (35, sl A_l l c_l), (36, vI (l.length : Int)), (37, vI i164)] (by kernel_rfl) ?_
       refine ops_mem (d := some 99) (an := [.v (vI x166.System), .v (vI x166.Ent.N), .v (vI x166.Ent.Gen), .v (vI x166.Value)]) (evs := [ld b177 0 (vI x166.System), ld b177 1 (vI x166.Ent.N), ld b177 2 (vI x166.Ent.Gen), ld b177 3 (vI x166.Value)]) (v := .agg #[vI x166.System, vI x166.Ent.N, vI x166.Ent.Gen, vI x166.Value]) ⟨by kernel_rfl⟩ (fun w_ hM hS => ⟨w_, ⟨hM.cell 7 rfl rfl, hM.cell 7 rfl rfl, hM.cell 7 rfl rfl, hM.cell 7 rfl rfl, rfl⟩, hM, trivial⟩) ?_
       obtain ⟨l194, hv195, hp⟩ := obind hp
       obtain ⟨es196, ck197, h198, hrun199⟩ := MapOK.update h159 keyLaw_94 Try.underlying95 (api_Event.mk x166.System (api_Ent.mk x166.Ent.N x166.Ent.Gen) 0) (v := (api_Event.mk x166.System (api_Ent.mk x166.Ent.N x166.Ent.Gen) x166.Value)) (vs := [vI x166.System, vI x166.Ent.N, vI x166.Ent.Gen, vI x166.Value]) ((enc_api_Event))
       rw [Option.some.inj hv195] at h198
       refine ops_unit (op := (.mapUpdate 95 (.tmp 93) (.tmp 98) (.tmp 99))) (σ := Unit) (M' := fun _ => Mem w0 (.blk b1 [sl A_w_0 w_0 c_w_0, sl A_w_1 w_1 c_w_1, sl A_w_2 w_2 c_w_2] 26 :: .blk b2 [vI vals_0, vI vals_1] 90 :: ow A178 l180 c179 94 4 y181 :: ow A184 l186 c185 94 4 y187 :: ow A189 l191 c190 94 4 y192 :: .obj g12 (.map es196 ck197) :: .obj g14 (.map es160 ck161) :: .blk b177 [vI x166.System, vI x166.Ent.N, vI x166.Ent.Gen, vI x166.Value] 94 :: Fz F W :: cs)) ⟨by kernel_rfl⟩ (fun o_ w_ ho_ hM hS => have h' := hM.setObj 5 rfl _; ⟨(), _, run_updateV rfl rfl rfl (hrun199 g12 w_ (hM.mapAt 5 rfl)) o_ ho_, h', trivial⟩) (fun _ => ?_)
       refine ops_nil (fin_then (st_region [oF 0, oF 1, oF 2, oF 3, oF 4, oF 5] (by rfl) ?_))
       refine oQ [oF 0, oF 1] [(101, vP b177 0), (100, .map (some g14)), (1, sl A_l l c_l), (2, vI s), (4, vP b1 0), (7, vP b2 0), (9, sl A178 l180 c179), (10, sl A184 l186 c185), (11, sl A189 l191 c190), (12, .map (some g12)), (13, .map (some g14)), (35, sl A_l l c_l), (36, vI (l.length : Int)), (37, vI i164)] (by kernel_rfl) ?_
       refine ops_mem (d := some 102) (an := [.v (vI x166.System)]) (evs := [ld b177 0 (vI x166.System)]) (v := vI x166.System) ⟨by kernel_rfl⟩ (fun w_ hM hS => ⟨w_, ⟨hM.cell 7 rfl rfl, rfl⟩, hM, trivial⟩) ?_
       obtain ⟨x200, hv201, hp⟩ := obind hp
       obtain ⟨vs202, hr203, hrun204⟩ := h163.get (KeyLaw.int Try.underlying3) Try.underlying96 x166.System 0 (rfl) (fun u_ => Try.zeroValue3 u_)
       have hr203 : (Rep.int .i64).rd F W x200 vs202 := by rw [← Option.some.inj hv201]; exact hr203
       obtain rfl := hr203
       refine ops_law (op := (.lookup 96 (.tmp 100) (.tmp 102) false)) (d := some 103) (σ := Unit) (v := fun _ => vI x200) (M' := fun _ => Mem w0 (.blk b1 [sl A_w_0 w_0 c_w_0, sl A_w_1 w_1 c_w_1, sl A_w_2 w_2 c_w_2] 26 :: .blk b2 [vI vals_0, vI vals_1] 90 :: ow A178 l180 c179 94 4 y181 :: ow A184 l186 c185 94 4 y187 :: ow A189 l191 c190 94 4 y192 :: .obj g12 (.map es196 ck197) :: .obj g14 (.map es160 ck161) :: .blk b177 [vI x166.System, vI x166.Ent.N, vI x166.Ent.Gen, vI x166.Value] 94 :: Fz F W :: cs)) ⟨by kernel_rfl⟩ (fun o_ w_ ho_ hM hS => ⟨(), w_, run_lookupV rfl rfl (hrun204 false g14 w_ (hM.mapAt 6 rfl)) o_ ho_, hM, trivial⟩) (fun _ => ?_)
       refine oQ [oF 4] [(104, vI (IntKind.i64.wrap (x200 + 1))), (102, vI x166.System), (100, .map (some g14)), (1, sl A_l l c_l), (2, vI s), (4, vP b1 0), (7, vP b2 0), (9, sl A178 l180 c179), (10, sl A184 l186 c185), (11, sl A189 l191 c190), (12, .map (some g12)), (13, .map (some g14)), (35, sl A_l l c_l), (36, vI (l.length : Int)), (37, vI i164)] (by kernel_rfl) ?_
       obtain ⟨l205, hv206, hp⟩ := obind hp
       obtain ⟨es207, ck208, h209, hrun210⟩ := MapOK.update h163 (KeyLaw.int Try.underlying3) Try.underlying96 x166.System (v := IntKind.i64.wrap (x200 + 1)) (vs := [vI (IntKind.i64.wrap (x200 + 1))]) (rfl)
       rw [Option.some.inj hv206] at h209
       refine ops_unit (op := (.mapUpdate 96 (.tmp 100) (.tmp 102) (.tmp 104))) (σ := Unit) (M' := fun _ => Mem w0 (.blk b1 [sl A_w_0 w_0 c_w_0, sl A_w_1 w_1 c_w_1, sl A_w_2 w_2 c_w_2] 26 :: .blk b2 [vI vals_0, vI vals_1] 90 :: ow A178 l180 c179 94 4 y181 :: ow A184 l186 c185 94 4 y187 :: ow A189 l191 c190 94 4 y192 :: .obj g12 (.map es196 ck197) :: .obj g14 (.map es207 ck208) :: .blk b177 [vI x166.System, vI x166.Ent.N, vI x166.Ent.Gen, vI x166.Value] 94 :: Fz F W :: cs)) ⟨by kernel_rfl⟩ (fun o_ w_ ho_ hM hS => have h' := hM.setObj 6 rfl _; ⟨(), _, run_updateV rfl rfl rfl (hrun210 g14 w_ (hM.mapAt 6 rfl)) o_ ho_, h', trivial⟩) (fun _ => ?_)
       refine ops_nil (fin_block (fin_then (st_region [oF 0, oF 1] (by rfl) ?_)))
       refine oQ [oF 0, oF 1] [(37, vI (IntKind.i64.wrap (i164 + 1))), (1, sl A_l l c_l), (2, vI s), (4, vP b1 0), (7, vP b2 0), (9, sl A178 l180 c179), (10, sl A184 l186 c185), (11, sl A189 l191 c190), (12, .map (some g12)), (13, .map (some g14)), (35, sl A_l l c_l), (36, vI (l.length : Int))] (by kernel_rfl) ?_
       refine ops_nil ?_
       exact fin_again (l180, l186, l191, l194, l205, IntKind.i64.wrap (i164 + 1)) (A178, c179, y181, A184, c185, y187, A189, c190, y192, es196, ck197, es207, ck208) (Option.some.inj hp).symm ⟨h182, h188, h193, h198, h209⟩ (look_has ⟨rfl, rfl, rfl, rfl, rfl, rfl, rfl, rfl, rfl, rfl, rfl, rfl, trivial⟩) (fun w_ hM => hM.pick 9 [0, 1, 2, 3, 4, 5, 6, 8] (by kernel_rfl) (by decide) rfl)
      ·
       intro HJ11
       refine st_seq (st_seq (st_region [oF 0] (by rfl) ?_))
       refine oQ [oF 0] [(84, .bool t183), (1, sl A_l l c_l), (2, vI s), (4, vP b1 0), (7, vP b2 0), (9, sl A178 l180 c179), (10, sl A146 l148 c147), (11, sl A151 l153 c152), (12, .map (some g12)), (13, .map (some g14)), (15, vP b177 0), (35, sl A_l l c_l), (36, vI (l.length : Int)), (37, vI i164)] (by kernel_rfl) ?_
       refine ops_nil (fin_then ?_)
       refine st_if (b := t183) rfl (fun hc211 => ?_) (fun hc211 => ?_)
       ·
        have hp := cnd_t hc211 hp
        refine st_region [oF 0, oF 1, oF 2, oF 3, oF 4] (by rfl) ?_
        refine oQ [oF 0] [(85, sl A146 l148 c147), (1, sl A_l l c_l), (2, vI s), (4, vP b1 0), (7, vP b2 0), (9, sl A178 l180 c179), (10, sl A146 l148 c147), (11, sl A151 l153 c152), (12, .map (some g12)), (13, .map (some g14)), (15, vP b177 0), (35, sl A_l l c_l), (36, vI (l.length : Int)), (37, vI i164)] (by kernel_rfl) ?_
        refine ops_mem (d := some 86) (an := [.v (vI x166.System), .v (vI x166.Ent.N), .v (vI x166.Ent.Gen), .v (vI x166.Value)]) (evs := [ld b177 0 (vI x166.System), ld b177 1 (vI x166.Ent.N), ld b177 2 (vI x166.Ent.Gen), ld b177 3 (vI x166.Value)]) (v := .agg #[vI x166.System, vI x166.Ent.N, vI x166.Ent.Gen, vI x166.Value]) ⟨by kernel_rfl⟩ (fun w_ hM hS => ⟨w_, ⟨hM.cell 7 rfl rfl, hM.cell 7 rfl rfl, hM.cell 7 rfl rfl, hM.cell 7 rfl rfl, rfl⟩, hM, trivial⟩) ?_
        have h212 : RepL R_api_Event F W ([(api_Event.mk x166.System (api_Ent.mk x166.Ent.N x166.Ent.Gen) x166.Value)] : List api_Event) ([vI x166.System, vI x166.Ent.N, vI x166.Ent.Gen, vI x166.Value]) := (RepL.cons (R := R_api_Event) (F := F) (w := W) (vs := [vI x166.System, vI x166.Ent.N, vI x166.Ent.Gen, vI x166.Value]) (ys := []) (enc_api_Event) RepL.nil)
        refine ops_new (d := some 87) (o := .cells ([vI x166.System, vI x166.Ent.N, vI x166.Ent.Gen, vI x166.Value] : List Value).toArray 94) (v := fun g213 => .slice (sa g213) ([(api_Event.mk x166.System (api_Ent.mk x166.Ent.N x166.Ent.Gen) x166.Value)] : List api_Event).length 1) (M' := fun g213 => Mem w0 (orow (sa g213) ([(api_Event.mk x166.System (api_Ent.mk x166.Ent.N x166.Ent.Gen) x166.Value)] : List api_Event).length 1 94 4 ([vI x166.System, vI x166.Ent.N, vI x166.Ent.Gen, vI x166.Value]) :: .blk b1 [sl A_w_0 w_0 c_w_0, sl A_w_1 w_1 c_w_1, sl A_w_2 w_2 c_w_2] 26 :: .blk b2 [vI vals_0, vI vals_1] 90 :: ow A178 l180 c179 94 4 y181 :: ow A146 l148 c147 94 4 y149 :: ow A151 l153 c152 94 4 y154 :: .obj g12 (.map es156 ck157) :: .obj g14 (.map es160 ck161) :: .blk b177 [vI x166.System, vI x166.Ent.N, vI x166.Ent.Gen, vI x166.Value] 94 :: Fz F W :: cs)) (fun g213 => ⟨by kernel_rfl⟩) (fun w_ hM hS => ⟨hM.onew [vI x166.System, vI x166.Ent.N, vI x166.Ent.Gen, vI x166.Value] 94 1 4 rfl (by decide), trivial⟩) (fun g213 => ?_)
        obtain ⟨l214, hv215, hp⟩ := obind hp
        obtain ⟨he216, hb217⟩ := app_some hv215
        obtain ⟨y218, hy219⟩ : ∃ y_, y149 ++ ([vI x166.System, vI x166.Ent.N, vI x166.Ent.Gen, vI x166.Value]) = y_ := ⟨_, rfl⟩
        have h220 : RepL R_api_Event F W l214 y218 := by rw [he216, ← hy219]; exact RepL.app h150 h212
        refine ops_appendO (x := (Go.Operand.tmp 85)) (y := (Go.Operand.tmp 87)) (t := 88) (e := 94) (d := some 88) (n' := l214.length) (z := 4) (m := ([(api_Event.mk x166.System (api_Ent.mk x166.Ent.N x166.Ent.Gen) x166.Value)] : List api_Event).length) (bytes := 32) (xs' := y218) (news := ([vI x166.System, vI x166.Ent.N, vI x166.Ent.Gen, vI x166.Value])) (zv := .agg #[vI 0, vI 0, vI 0, vI 0]) 4 ⟨by kernel_rfl⟩ rfl rfl Try.underlying88 (by kernel_rfl) (by rfl) rfl (fun w_ hM => hM.srcO 0 rfl) h212.len h212.one hb217 (by have z_ := congrArg List.length he216; rw [List.length_append] at z_; exact z_.symm) hy219 (fun _ _ _ _ hS h' => trivial) ?_
        rintro ⟨A221, c222⟩
        refine oQ [oF 4] [(10, sl A221 l214 c222), (1, sl A_l l c_l), (2, vI s), (4, vP b1 0), (7, vP b2 0), (9, sl A178 l180 c179), (11, sl A151 l153 c152), (12, .map (some g12)), (13, .map (some g14)), (15, vP b177 0), (35, sl A_l l c_l), (36, vI (l.length : Int)), (37, vI i164)] (by kernel_rfl) ?_
        refine ops_nil ?_
        exact fin_join HJ11 (A221, c222, l214, y218, A151, c152, l153, y154) ⟨hp, h220, h155⟩ (look_has ⟨rfl, rfl, rfl, rfl, rfl, rfl, rfl, rfl, rfl, rfl, rfl, rfl, rfl, trivial⟩) (fun w_ hM => hM.pick 10 [1, 2, 3, 4, 5, 6, 7, 8, 9] (by kernel_rfl) (by decide) rfl)
       ·
        have hp := cnd_f hc211 hp
        refine st_region [oF 0, oF 1, oF 2, oF 3, oF 4] (by rfl) ?_
        refine oQ [oF 0] [(89, sl A151 l153 c152), (1, sl A_l l c_l), (2, vI s), (4, vP b1 0), (7, vP b2 0), (9, sl A178 l180 c179), (10, sl A146 l148 c147), (11, sl A151 l153 c152), (12, .map (some g12)), (13, .map (some g14)), (15, vP b177 0), (35, sl A_l l c_l), (36, vI (l.length : Int)), (37, vI i164)] (by kernel_rfl) ?_
        refine ops_mem (d := some 90) (an := [.v (vI x166.System), .v (vI x166.Ent.N), .v (vI x166.Ent.Gen), .v (vI x166.Value)]) (evs := [ld b177 0 (vI x166.System), ld b177 1 (vI x166.Ent.N), ld b177 2 (vI x166.Ent.Gen), ld b177 3 (vI x166.Value)]) (v := .agg #[vI x166.System, vI x166.Ent.N, vI x166.Ent.Gen, vI x166.Value]) ⟨by kernel_rfl⟩ (fun w_ hM hS => ⟨w_, ⟨hM.cell 7 rfl rfl, hM.cell 7 rfl rfl, hM.cell 7 rfl rfl, hM.cell 7 rfl rfl, rfl⟩, hM, trivial⟩) ?_
        have h223 : RepL R_api_Event F W ([(api_Event.mk x166.System (api_Ent.mk x166.Ent.N x166.Ent.Gen) x166.Value)] : List api_Event) ([vI x166.System, vI x166.Ent.N, vI x166.Ent.Gen, vI x166.Value]) := (RepL.cons (R := R_api_Event) (F := F) (w := W) (vs := [vI x166.System, vI x166.Ent.N, vI x166.Ent.Gen, vI x166.Value]) (ys := []) (enc_api_Event) RepL.nil)
        refine ops_new (d := some 91) (o := .cells ([vI x166.System, vI x166.Ent.N, vI x166.Ent.Gen, vI x166.Value] : List Value).toArray 94) (v := fun g224 => .slice (sa g224) ([(api_Event.mk x166.System (api_Ent.mk x166.Ent.N x166.Ent.Gen) x166.Value)] : List api_Event).length 1) (M' := fun g224 => Mem w0 (orow (sa g224) ([(api_Event.mk x166.System (api_Ent.mk x166.Ent.N x166.Ent.Gen) x166.Value)] : List api_Event).length 1 94 4 ([vI x166.System, vI x166.Ent.N, vI x166.Ent.Gen, vI x166.Value]) :: .blk b1 [sl A_w_0 w_0 c_w_0, sl A_w_1 w_1 c_w_1, sl A_w_2 w_2 c_w_2] 26 :: .blk b2 [vI vals_0, vI vals_1] 90 :: ow A178 l180 c179 94 4 y181 :: ow A146 l148 c147 94 4 y149 :: ow A151 l153 c152 94 4 y154 :: .obj g12 (.map es156 ck157) :: .obj g14 (.map es160 ck161) :: .blk b177 [vI x166.System, vI x166.Ent.N, vI x166.Ent.Gen, vI x166.Value] 94 :: Fz F W :: cs)) (fun g224 => ⟨by kernel_rfl⟩) (fun w_ hM hS => ⟨hM.onew [vI x166.System, vI x166.Ent.N, vI x166.Ent.Gen, vI x166.Value] 94 1 4 rfl (by decide), trivial⟩) (fun g224 => ?_)
        obtain ⟨l225, hv226, hp⟩ := obind hp
        obtain ⟨he227, hb228⟩ := app_some hv226
        obtain ⟨y229, hy230⟩ : ∃ y_, y154 ++ ([vI x166.System, vI x166.Ent.N, vI x166.Ent.Gen, vI x166.Value]) = y_ := ⟨_, rfl⟩
        have h231 : RepL R_api_Event F W l225 y229 := by rw [he227, ← hy230]; exact RepL.app h155 h223
        refine ops_appendO (x := (Go.Operand.tmp 89)) (y := (Go.Operand.tmp 91)) (t := 88) (e := 94) (d := some 92) (n' := l225.length) (z := 4) (m := ([(api_Event.mk x166.System (api_Ent.mk x166.Ent.N x166.Ent.Gen) x166.Value)] : List api_Event).length) (bytes := 32) (xs' := y229) (news := ([vI x166.System, vI x166.Ent.N, vI x166.Ent.Gen, vI x166.Value])) (zv := .agg #[vI 0, vI 0, vI 0, vI 0]) 5 ⟨by kernel_rfl⟩ rfl rfl Try.underlying88 (by kernel_rfl) (by rfl) rfl (fun w_ hM => hM.srcO 0 rfl) h223.len h223.one hb228 (by have z_ := congrArg List.length he227; rw [List.length_append] at z_; exact z_.symm) hy230 (fun _ _ _ _ hS h' => trivial) ?_
        rintro ⟨A232, c233⟩
        refine oQ [oF 4] [(11, sl A232 l225 c233), (1, sl A_l l c_l), (2, vI s), (4, vP b1 0), (7, vP b2 0), (9, sl A178 l180 c179), (10, sl A146 l148 c147), (12, .map (some g12)), (13, .map (some g14)), (15, vP b177 0), (35, sl A_l l c_l), (36, vI (l.length : Int)), (37, vI i164)] (by kernel_rfl) ?_
        refine ops_nil ?_
        exact fin_join HJ11 (A146, c147, l148, y149, A232, c233, l225, y229) ⟨hp, h150, h231⟩ (look_has ⟨rfl, rfl, rfl, rfl, rfl, rfl, rfl, rfl, rfl, rfl, rfl, rfl, rfl, trivial⟩) (fun w_ hM => hM.pick 10 [1, 2, 3, 4, 5, 6, 7, 8, 9] (by kernel_rfl) (by decide) rfl)
     ·
      intro HJ10
      refine st_seq (st_seq (st_region [oF 0, oF 1, oF 2, oF 3] (by rfl) ?_))
      refine oQ [oF 0] [(68, vP b1 2), (16, .bool false), (1, sl A_l l c_l), (2, vI s), (4, vP b1 0), (7, vP b2 0), (9, sl A178 l180 c179), (10, sl A146 l148 c147), (11, sl A151 l153 c152), (12, .map (some g12)), (13, .map (some g14)), (15, vP b177 0), (35, sl A_l l c_l), (36, vI (l.length : Int)), (37, vI i164)] (by kernel_rfl) ?_
      refine ops_mem (d := some 69) (an := [.v (sl A_w_2 w_2 c_w_2)]) (evs := [ld b1 2 (sl A_w_2 w_2 c_w_2)]) (v := sl A_w_2 w_2 c_w_2) ⟨by kernel_rfl⟩ (fun w_ hM hS => ⟨w_, ⟨hM.cell 0 rfl rfl, rfl⟩, hM, trivial⟩) ?_
      refine oQ [oF 2, oF 3] [(71, vI 0), (70, vI (w_2.length : Int)), (69, sl A_w_2 w_2 c_w_2), (16, .bool false), (1, sl A_l l c_l), (2, vI s), (4, vP b1 0), (7, vP b2 0), (9, sl A178 l180 c179), (10, sl A146 l148 c147), (11, sl A151 l153 c152), (12, .map (some g12)), (13, .map (some g14)), (15, vP b177 0), (35, sl A_l l c_l), (36, vI (l.length : Int)), (37, vI i164)] (by kernel_rfl) ?_
      refine ops_nil (fin_then (st_block ?_))
      obtain ⟨r12, hl12, hk12⟩ := obind hp
      refine st_loopP (σ := Bool × Int) (ρ := Bool) (γ := Unit) hl12 () (fun s_ g_ => match s_, g_ with | (t234, i235), _ => [(1, sl A_l l c_l), (2, vI s), (4, vP b1 0), (7, vP b2 0), (9, sl A178 l180 c179), (10, sl A146 l148 c147), (11, sl A151 l153 c152), (12, .map (some g12)), (13, .map (some g14)), (15, vP b177 0), (16, .bool t234), (35, sl A_l l c_l), (36, vI (l.length : Int)), (37, vI i164), (69, sl A_w_2 w_2 c_w_2), (70, vI (w_2.length : Int)), (71, vI i235)]) (fun s_ g_ => match s_, g_ with | (t234, i235), _ => Mem w0 (.blk b1 [sl A_w_0 w_0 c_w_0, sl A_w_1 w_1 c_w_1, sl A_w_2 w_2 c_w_2] 26 :: .blk b2 [vI vals_0, vI vals_1] 90 :: ow A178 l180 c179 94 4 y181 :: ow A146 l148 c147 94 4 y149 :: ow A151 l153 c152 94 4 y154 :: .obj g12 (.map es156 ck157) :: .obj g14 (.map es160 ck161) :: .blk b177 [vI x166.System, vI x166.Ent.N, vI x166.Ent.Gen, vI x166.Value] 94 :: Fz F W :: cs)) (fun s_ g_ => match s_, g_ with | (t234, i235), _ => True) trivial (look_has ⟨rfl, rfl, rfl, rfl, rfl, rfl, rfl, rfl, rfl, rfl, rfl, rfl, rfl, rfl, rfl, rfl, rfl, trivial⟩) (fun w_ hM => hM) ?_
      rintro ⟨t234, i235⟩ _ o12 - hs_ hd12
      have hp : (tourlaw3_EventFilters_l12 w_2 x166) t234 i235 = some o12 := hs_
      clear hs_
      unfold tourlaw3_EventFilters_l12 at hp
      refine st_seq (st_region [oF 0] (by rfl) ?_)
      refine oQ [oF 0] [(72, .bool (decide (i235 < (w_2.length : Int)))), (1, sl A_l l c_l), (2, vI s), (4, vP b1 0), (7, vP b2 0), (9, sl A178 l180 c179), (10, sl A146 l148 c147), (11, sl A151 l153 c152), (12, .map (some g12)), (13, .map (some g14)), (15, vP b177 0), (16, .bool t234), (35, sl A_l l c_l), (36, vI (l.length : Int)), (37, vI i164), (69, sl A_w_2 w_2 c_w_2), (70, vI (w_2.length : Int)), (71, vI i235)] (by kernel_rfl) ?_
      refine ops_nil (fin_then (st_seq ?_))
      refine st_if (b := decide (i235 < (w_2.length : Int))) rfl (fun hc236 => ?_) (fun hc236 => ?_)
      ·
       have hp := cnd_t hc236 hp
       refine st_skip (fin_then ?_)
       refine st_join1 (σ := Bool) (L := fun x_ => match x_ with | t237 => [(1, sl A_l l c_l), (2, vI s), (4, vP b1 0), (7, vP b2 0), (9, sl A178 l180 c179), (10, sl A146 l148 c147), (11, sl A151 l153 c152), (12, .map (some g12)), (13, .map (some g14)), (15, vP b177 0), (16, .bool t237), (35, sl A_l l c_l), (36, vI (l.length : Int)), (37, vI i164), (69, sl A_w_2 w_2 c_w_2), (70, vI (w_2.length : Int)), (71, vI i235)]) (N := fun x_ => match x_ with | t237 => Mem w0 (.blk b1 [sl A_w_0 w_0 c_w_0, sl A_w_1 w_1 c_w_1, sl A_w_2 w_2 c_w_2] 26 :: .blk b2 [vI vals_0, vI vals_1] 90 :: ow A178 l180 c179 94 4 y181 :: ow A146 l148 c147 94 4 y149 :: ow A151 l153 c152 94 4 y154 :: .obj g12 (.map es156 ck157) :: .obj g14 (.map es160 ck161) :: .blk b177 [vI x166.System, vI x166.Ent.N, vI x166.Ent.Gen, vI x166.Value] 94 :: Fz F W :: cs)) (I := fun x_ => match x_ with | t237 => ((tourlaw3_EventFilters_j13 i235) t237 = some o12)) ?_ ?_
       ·
        rintro t237 hp
        unfold tourlaw3_EventFilters_j13 at hp
        refine st_region [oF 0, oF 1] (by rfl) ?_
        refine oQ [oF 0, oF 1] [(71, vI (IntKind.i64.wrap (i235 + 1))), (1, sl A_l l c_l), (2, vI s), (4, vP b1 0), (7, vP b2 0), (9, sl A178 l180 c179), (10, sl A146 l148 c147), (11, sl A151 l153 c152), (12, .map (some g12)), (13, .map (some g14)), (15, vP b177 0), (16, .bool t237), (35, sl A_l l c_l), (36, vI (l.length : Int)), (37, vI i164), (69, sl A_w_2 w_2 c_w_2), (70, vI (w_2.length : Int))] (by kernel_rfl) ?_
        refine ops_nil ?_
        exact fin_again (t237, IntKind.i64.wrap (i235 + 1)) () (Option.some.inj hp).symm trivial (look_has ⟨rfl, rfl, rfl, rfl, rfl, rfl, rfl, rfl, rfl, rfl, rfl, rfl, rfl, rfl, rfl, rfl, rfl, trivial⟩) (fun w_ hM => hM)
       ·
        intro HJ13
        refine st_seq (st_block (st_seq (st_region [oF 0, oF 1, oF 2, oF 3] (by rfl) ?_)))
        obtain ⟨x238, hv239, hp⟩ := obind hp
        obtain ⟨m240, hm241, hx242⟩ := idx_some hv239
        have hl245 := (List.getElem?_eq_some_iff.1 hx242).1
        obtain ⟨ad246, vs243, hA247, hr244, hq248⟩ := RdS.el h_w_2 hx242
        obtain ⟨A249, c250, rfl, h251⟩ := dec_api_Item hr244
        refine ops_val (op := (.indexAddr 24 (.tmp 69) (.tmp 71))) (d := some 73) (v := .pointer (some (ad246.add (m240 * 3)))) ⟨by kernel_rfl⟩ (run_indexA hA247 Try.underlying24 (z := 3) (by kernel_rfl) rfl rfl hm241 hl245) ?_
        refine ops_mem (d := some 74) (an := [.v (vI x238.Ent.N), .v (vI x238.Ent.Gen), .v (sl A249 x238.Comps c250)]) (evs := [.load (ad246.add (m240 * 3)) (vI x238.Ent.N), .load ((ad246.add (m240 * 3)).add 1) (vI x238.Ent.Gen), .load ((ad246.add (m240 * 3)).add 2) (sl A249 x238.Comps c250)]) (v := .agg #[vI x238.Ent.N, vI x238.Ent.Gen, sl A249 x238.Comps c250]) ⟨by kernel_rfl⟩ (fun w_ hM hS => ⟨w_, ⟨hM.elcell 8 rfl hq248 0 rfl, hM.elcell 8 rfl hq248 1 rfl, hM.elcell 8 rfl hq248 2 rfl, rfl⟩, hM, trivial⟩) ?_
        refine ops_newB (d := some 18) [vI 0, vI 0, .slice none 0 0] 38 (fun b252 => ⟨by kernel_rfl⟩) (fun w_ hM hS => trivial) (fun b252 => ?_)
        refine ops_store (an := []) (evs := [sr b252 0 (vI x238.Ent.N), sr b252 1 (vI x238.Ent.Gen), sr b252 2 (sl A249 x238.Comps c250)]) ⟨by kernel_rfl⟩ (fun w_ hM hS => let ⟨w', he, h'⟩ := hM.evs_stores [vI x238.Ent.N, vI x238.Ent.Gen, sl A249 x238.Comps c250] 0 rfl 0 (Nat.le_of_ble_eq_true rfl); ⟨w', he, h', trivial⟩) ?_
        refine ops_nil (fin_then (st_region [oF 0, oF 1, oF 2, oF 3, oF 4, oF 5, oF 6, oF 7, oF 8] (by rfl) ?_))
        refine oQ [oF 0, oF 1] [(76, .bool t234), (18, vP b252 0), (1, sl A_l l c_l), (2, vI s), (4, vP b1 0), (7, vP b2 0), (9, sl A178 l180 c179), (10, sl A146 l148 c147), (11, sl A151 l153 c152), (12, .map (some g12)), (13, .map (some g14)), (15, vP b177 0), (16, .bool t234), (35, sl A_l l c_l), (36, vI (l.length : Int)), (37, vI i164), (69, sl A_w_2 w_2 c_w_2), (70, vI (w_2.length : Int)), (71, vI i235)] (by kernel_rfl) ?_
        refine ops_bool (t := t234) (l1 := [(76, .bool true), (18, vP b252 0), (1, sl A_l l c_l), (2, vI s), (4, vP b1 0), (7, vP b2 0), (9, sl A178 l180 c179), (10, sl A146 l148 c147), (11, sl A151 l153 c152), (12, .map (some g12)), (13, .map (some g14)), (15, vP b177 0), (16, .bool true), (35, sl A_l l c_l), (36, vI (l.length : Int)), (37, vI i164), (69, sl A_w_2 w_2 c_w_2), (70, vI (w_2.length : Int)), (71, vI i235)]) (l2 := [(76, .bool false), (18, vP b252 0), (1, sl A_l l c_l), (2, vI s), (4, vP b1 0), (7, vP b2 0), (9, sl A178 l180 c179), (10, sl A146 l148 c147), (11, sl A151 l153 c152), (12, .map (some g12)), (13, .map (some g14)), (15, vP b177 0), (16, .bool false), (35, sl A_l l c_l), (36, vI (l.length : Int)), (37, vI i164), (69, sl A_w_2 w_2 c_w_2), (70, vI (w_2.length : Int)), (71, vI i235)]) (fun h => by rw [h]) (fun h => by rw [h]) (fun hc253 => ?_) (fun hc253 => ?_)
        ·
         have hp := cnd_t hc253 hp
         refine oQ [oF 2, oF 3, oF 4, oF 5, oF 6, oF 7, oF 8] [(16, .bool true), (1, sl A_l l c_l), (2, vI s), (4, vP b1 0), (7, vP b2 0), (9, sl A178 l180 c179), (10, sl A146 l148 c147), (11, sl A151 l153 c152), (12, .map (some g12)), (13, .map (some g14)), (15, vP b177 0), (35, sl A_l l c_l), (36, vI (l.length : Int)), (37, vI i164), (69, sl A_w_2 w_2 c_w_2), (70, vI (w_2.length : Int)), (71, vI i235)] (by kernel_rfl) ?_
         refine ops_nil (fin_block ?_)
         exact fin_join HJ13 true hp (look_has ⟨rfl, rfl, rfl, rfl, rfl, rfl, rfl, rfl, rfl, rfl, rfl, rfl, rfl, rfl, rfl, rfl, rfl, trivial⟩) (fun w_ hM => hM.pick 10 [1, 2, 3, 4, 5, 6, 7, 8, 9] (by kernel_rfl) (by decide) rfl)
        ·
         have hp := cnd_f hc253 hp
         refine oQ [oF 2] [(77, vP b252 0), (76, .bool false), (1, sl A_l l c_l), (2, vI s), (4, vP b1 0), (7, vP b2 0), (9, sl A178 l180 c179), (10, sl A146 l148 c147), (11, sl A151 l153 c152), (12, .map (some g12)), (13, .map (some g14)), (15, vP b177 0), (16, .bool false), (35, sl A_l l c_l), (36, vI (l.length : Int)), (37, vI i164), (69, sl A_w_2 w_2 c_w_2), (70, vI (w_2.length : Int)), (71, vI i235)] (by kernel_rfl) ?_
         refine ops_mem (d := some 78) (an := [.v (vI x238.Ent.N), .v (vI x238.Ent.Gen)]) (evs := [ld b252 0 (vI x238.Ent.N), ld b252 1 (vI x238.Ent.Gen)]) (v := .agg #[vI x238.Ent.N, vI x238.Ent.Gen]) ⟨by kernel_rfl⟩ (fun w_ hM hS => ⟨w_, ⟨hM.cell 0 rfl rfl, hM.cell 0 rfl rfl, rfl⟩, hM, trivial⟩) ?_
         refine oQ [oF 4] [(79, vP b177 1), (78, .agg #[vI x238.Ent.N, vI x238.Ent.Gen]), (76, .bool false), (1, sl A_l l c_l), (2, vI s), (4, vP b1 0), (7, vP b2 0), (9, sl A178 l180 c179), (10, sl A146 l148 c147), (11, sl A151 l153 c152), (12, .map (some g12)), (13, .map (some g14)), (15, vP b177 0), (16, .bool false), (35, sl A_l l c_l), (36, vI (l.length : Int)), (37, vI i164), (69, sl A_w_2 w_2 c_w_2), (70, vI (w_2.length : Int)), (71, vI i235)] (by kernel_rfl) ?_
         refine ops_mem (d := some 80) (an := [.v (vI x166.Ent.N), .v (vI x166.Ent.Gen)]) (evs := [ld b177 1 (vI x166.Ent.N), ld b177 2 (vI x166.Ent.Gen)]) (v := .agg #[vI x166.Ent.N, vI x166.Ent.Gen]) ⟨by kernel_rfl⟩ (fun w_ hM hS => ⟨w_, ⟨hM.cell 8 rfl rfl, hM.cell 8 rfl rfl, rfl⟩, hM, trivial⟩) ?_
         refine ops_val (op := (.binOp Go.BinOp.eql 35 (.tmp 78) (.tmp 80) 35)) (d := some 81) (v := .bool (x238.Ent.N == x166.Ent.N && (x238.Ent.Gen == x166.Ent.Gen))) ⟨by kernel_rfl⟩ (run_eql_agg (r := x238.Ent.N == x166.Ent.N && (x238.Ent.Gen == x166.Ent.Gen)) rfl rfl (by kernel_rfl) (fun w => eqA35 9998 w x238.Ent.N x166.Ent.N x238.Ent.Gen x166.Ent.Gen)) ?_
         refine oQ [oF 7, oF 8] [(16, .bool (x238.Ent.N == x166.Ent.N && (x238.Ent.Gen == x166.Ent.Gen))), (1, sl A_l l c_l), (2, vI s), (4, vP b1 0), (7, vP b2 0), (9, sl A178 l180 c179), (10, sl A146 l148 c147), (11, sl A151 l153 c152), (12, .map (some g12)), (13, .map (some g14)), (15, vP b177 0), (35, sl A_l l c_l), (36, vI (l.length : Int)), (37, vI i164), (69, sl A_w_2 w_2 c_w_2), (70, vI (w_2.length : Int)), (71, vI i235)] (by kernel_rfl) ?_
         refine ops_nil (fin_block ?_)
         exact fin_join HJ13 (x238.Ent.N == x166.Ent.N && (x238.Ent.Gen == x166.Ent.Gen)) hp (look_has ⟨rfl, rfl, rfl, rfl, rfl, rfl, rfl, rfl, rfl, rfl, rfl, rfl, rfl, rfl, rfl, rfl, rfl, trivial⟩) (fun w_ hM => hM.pick 10 [1, 2, 3, 4, 5, 6, 7, 8, 9] (by kernel_rfl) (by decide) rfl)
      ·
       have hp := cnd_f hc236 hp
       refine st_exit (fin_exit_then (fin_exit_then (fin_exit ?_)))
       obtain hq_ := Option.some.inj hp
       subst hq_
       obtain hq_ := hd12 _ rfl
       subst hq_
       have hp : (tourlaw3_EventFilters_j10 l148 x166 l158 l162 l180 i164 l153) t234 = some o8 := hk12
       exact fin_join HJ10 t234 hp (look_has ⟨rfl, rfl, rfl, rfl, rfl, rfl, rfl, rfl, rfl, rfl, rfl, rfl, rfl, rfl, trivial⟩) (fun w_ hM => hM)
    ·
     intro HJ9
     refine st_seq (st_seq (st_region [oF 0, oF 1, oF 2, oF 3, oF 4, oF 5, oF 6, oF 7, oF 8, oF 9, oF 10, oF 11, oF 12, oF 13, oF 14, oF 15, oF 16, oF 17, oF 18, oF 19, oF 20, oF 21, oF 22] (by rfl) ?_))
     refine oQ [oF 0, oF 1, oF 2] [(43, .bool (s == (-1))), (15, vP b177 0), (1, sl A_l l c_l), (2, vI s), (4, vP b1 0), (7, vP b2 0), (9, sl A141 l143 c142), (10, sl A146 l148 c147), (11, sl A151 l153 c152), (12, .map (some g12)), (13, .map (some g14)), (35, sl A_l l c_l), (36, vI (l.length : Int)), (37, vI i164)] (by kernel_rfl) ?_
     refine ops_bool (t := (s == (-1))) (l1 := [(43, .bool true), (15, vP b177 0), (1, sl A_l l c_l), (2, vI s), (4, vP b1 0), (7, vP b2 0), (9, sl A141 l143 c142), (10, sl A146 l148 c147), (11, sl A151 l153 c152), (12, .map (some g12)), (13, .map (some g14)), (35, sl A_l l c_l), (36, vI (l.length : Int)), (37, vI i164)]) (l2 := [(43, .bool false), (15, vP b177 0), (1, sl A_l l c_l), (2, vI s), (4, vP b1 0), (7, vP b2 0), (9, sl A141 l143 c142), (10, sl A146 l148 c147), (11, sl A151 l153 c152), (12, .map (some g12)), (13, .map (some g14)), (35, sl A_l l c_l), (36, vI (l.length : Int)), (37, vI i164)]) (fun h => by rw [h]) (fun h => by rw [h]) (fun hc254 => ?_) (fun hc254 => ?_)
     ·
      have hp := cnd_t hc254 hp
      refine oQ [oF 3, oF 4, oF 5, oF 6, oF 7, oF 8, oF 9] [(50, vP b177 3), (49, .bool true), (15, vP b177 0), (1, sl A_l l c_l), (2, vI s), (4, vP b1 0), (7, vP b2 0), (9, sl A141 l143 c142), (10, sl A146 l148 c147), (11, sl A151 l153 c152), (12, .map (some g12)), (13, .map (some g14)), (35, sl A_l l c_l), (36, vI (l.length : Int)), (37, vI i164)] (by kernel_rfl) ?_
      refine ops_mem (d := some 51) (an := [.v (vI x166.Value)]) (evs := [ld b177 3 (vI x166.Value)]) (v := vI x166.Value) ⟨by kernel_rfl⟩ (fun w_ hM hS => ⟨w_, ⟨hM.cell 0 rfl rfl, rfl⟩, hM, trivial⟩) ?_
      refine oQ [oF 11] [(52, vP b2 0), (51, vI x166.Value), (49, .bool true), (15, vP b177 0), (1, sl A_l l c_l), (2, vI s), (4, vP b1 0), (7, vP b2 0), (9, sl A141 l143 c142), (10, sl A146 l148 c147), (11, sl A151 l153 c152), (12, .map (some g12)), (13, .map (some g14)), (35, sl A_l l c_l), (36, vI (l.length : Int)), (37, vI i164)] (by kernel_rfl) ?_
      refine ops_mem (d := some 53) (an := [.v (vI vals_0)]) (evs := [ld b2 0 (vI vals_0)]) (v := vI vals_0) ⟨by kernel_rfl⟩ (fun w_ hM hS => ⟨w_, ⟨hM.cell 2 rfl rfl, rfl⟩, hM, trivial⟩) ?_
      refine oQ [oF 13, oF 14] [(55, .bool (decide (x166.Value < vals_0))), (49, .bool true), (15, vP b177 0), (1, sl A_l l c_l), (2, vI s), (4, vP b1 0), (7, vP b2 0), (9, sl A141 l143 c142), (10, sl A146 l148 c147), (11, sl A151 l153 c152), (12, .map (some g12)), (13, .map (some g14)), (35, sl A_l l c_l), (36, vI (l.length : Int)), (37, vI i164)] (by kernel_rfl) ?_
      refine ops_bool (t := decide (x166.Value < vals_0)) (l1 := [(55, .bool true), (49, .bool true), (15, vP b177 0), (1, sl A_l l c_l), (2, vI s), (4, vP b1 0), (7, vP b2 0), (9, sl A141 l143 c142), (10, sl A146 l148 c147), (11, sl A151 l153 c152), (12, .map (some g12)), (13, .map (some g14)), (35, sl A_l l c_l), (36, vI (l.length : Int)), (37, vI i164)]) (l2 := [(55, .bool false), (49, .bool true), (15, vP b177 0), (1, sl A_l l c_l), (2, vI s), (4, vP b1 0), (7, vP b2 0), (9, sl A141 l143 c142), (10, sl A146 l148 c147), (11, sl A151 l153 c152), (12, .map (some g12)), (13, .map (some g14)), (35, sl A_l l c_l), (36, vI (l.length : Int)), (37, vI i164)]) (fun h => by rw [h]) (fun h => by rw [h]) (fun hc255 => ?_) (fun hc255 => ?_)
      ·
       have hp := cnd_t hc255 hp
       refine oQ [oF 15, oF 16, oF 17, oF 18, oF 19, oF 20, oF 21, oF 22] [(63, .bool false), (15, vP b177 0), (1, sl A_l l c_l), (2, vI s), (4, vP b1 0), (7, vP b2 0), (9, sl A141 l143 c142), (10, sl A146 l148 c147), (11, sl A151 l153 c152), (12, .map (some g12)), (13, .map (some g14)), (35, sl A_l l c_l), (36, vI (l.length : Int)), (37, vI i164)] (by kernel_rfl) ?_
       refine ops_nil (fin_then (st_false rfl (st_skip ?_)))
       exact fin_join HJ9 (A141, c142, l143, y144) ⟨hp, h145⟩ (look_has ⟨rfl, rfl, rfl, rfl, rfl, rfl, rfl, rfl, rfl, rfl, rfl, rfl, rfl, trivial⟩) (fun w_ hM => hM.pick 9 [1, 2, 3, 4, 5, 6, 7, 0, 8] (by kernel_rfl) (by decide) rfl)
      ·
       have hp := cnd_f hc255 hp
       refine oQ [oF 15] [(56, vP b177 3), (55, .bool false), (49, .bool true), (15, vP b177 0), (1, sl A_l l c_l), (2, vI s), (4, vP b1 0), (7, vP b2 0), (9, sl A141 l143 c142), (10, sl A146 l148 c147), (11, sl A151 l153 c152), (12, .map (some g12)), (13, .map (some g14)), (35, sl A_l l c_l), (36, vI (l.length : Int)), (37, vI i164)] (by kernel_rfl) ?_
       refine ops_mem (d := some 57) (an := [.v (vI x166.Value)]) (evs := [ld b177 3 (vI x166.Value)]) (v := vI x166.Value) ⟨by kernel_rfl⟩ (fun w_ hM hS => ⟨w_, ⟨hM.cell 0 rfl rfl, rfl⟩, hM, trivial⟩) ?_
       refine oQ [oF 17] [(58, vP b2 1), (57, vI x166.Value), (55, .bool false), (49, .bool true), (15, vP b177 0), (1, sl A_l l c_l), (2, vI s), (4, vP b1 0), (7, vP b2 0), (9, sl A141 l143 c142), (10, sl A146 l148 c147), (11, sl A151 l153 c152), (12, .map (some g12)), (13, .map (some g14)), (35, sl A_l l c_l), (36, vI (l.length : Int)), (37, vI i164)] (by kernel_rfl) ?_
       refine ops_mem (d := some 59) (an := [.v (vI vals_1)]) (evs := [ld b2 1 (vI vals_1)]) (v := vI vals_1) ⟨by kernel_rfl⟩ (fun w_ hM hS => ⟨w_, ⟨hM.cell 2 rfl rfl, rfl⟩, hM, trivial⟩) ?_
       refine oQ [oF 19, oF 20, oF 21, oF 22] [(63, .bool (!(decide (vals_1 < x166.Value)))), (15, vP b177 0), (1, sl A_l l c_l), (2, vI s), (4, vP b1 0), (7, vP b2 0), (9, sl A141 l143 c142), (10, sl A146 l148 c147), (11, sl A151 l153 c152), (12, .map (some g12)), (13, .map (some g14)), (35, sl A_l l c_l), (36, vI (l.length : Int)), (37, vI i164)] (by kernel_rfl) ?_
       refine ops_nil (fin_then ?_)
       refine st_if (b := !(decide (vals_1 < x166.Value))) rfl (fun hc256 => ?_) (fun hc256 => ?_)
       ·
        have hp := cnd_t hc256 hp
        refine st_region [oF 0, oF 1, oF 2, oF 3, oF 4] (by rfl) ?_
        refine oQ [oF 0] [(64, sl A141 l143 c142), (15, vP b177 0), (1, sl A_l l c_l), (2, vI s), (4, vP b1 0), (7, vP b2 0), (9, sl A141 l143 c142), (10, sl A146 l148 c147), (11, sl A151 l153 c152), (12, .map (some g12)), (13, .map (some g14)), (35, sl A_l l c_l), (36, vI (l.length : Int)), (37, vI i164)] (by kernel_rfl) ?_
        refine ops_mem (d := some 65) (an := [.v (vI x166.System), .v (vI x166.Ent.N), .v (vI x166.Ent.Gen), .v (vI x166.Value)]) (evs := [ld b177 0 (vI x166.System), ld b177 1 (vI x166.Ent.N), ld b177 2 (vI x166.Ent.Gen), ld b177 3 (vI x166.Value)]) (v := .agg #[vI x166.System, vI x166.Ent.N, vI x166.Ent.Gen, vI x166.Value]) ⟨by kernel_rfl⟩ (fun w_ hM hS => ⟨w_, ⟨hM.cell 0 rfl rfl, hM.cell 0 rfl rfl, hM.cell 0 rfl rfl, hM.cell 0 rfl rfl, rfl⟩, hM, trivial⟩) ?_
        have h257 : RepL R_api_Event F W ([(api_Event.mk x166.System (api_Ent.mk x166.Ent.N x166.Ent.Gen) x166.Value)] : List api_Event) ([vI x166.System, vI x166.Ent.N, vI x166.Ent.Gen, vI x166.Value]) := (RepL.cons (R := R_api_Event) (F := F) (w := W) (vs := [vI x166.System, vI x166.Ent.N, vI x166.Ent.Gen, vI x166.Value]) (ys := []) (enc_api_Event) RepL.nil)
        refine ops_new (d := some 66) (o := .cells ([vI x166.System, vI x166.Ent.N, vI x166.Ent.Gen, vI x166.Value] : List Value).toArray 94) (v := fun g258 => .slice (sa g258) ([(api_Event.mk x166.System (api_Ent.mk x166.Ent.N x166.Ent.Gen) x166.Value)] : List api_Event).length 1) (M' := fun g258 => Mem w0 (orow (sa g258) ([(api_Event.mk x166.System (api_Ent.mk x166.Ent.N x166.Ent.Gen) x166.Value)] : List api_Event).length 1 94 4 ([vI x166.System, vI x166.Ent.N, vI x166.Ent.Gen, vI x166.Value]) :: .blk b177 [vI x166.System, vI x166.Ent.N, vI x166.Ent.Gen, vI x166.Value] 94 :: .blk b1 [sl A_w_0 w_0 c_w_0, sl A_w_1 w_1 c_w_1, sl A_w_2 w_2 c_w_2] 26 :: .blk b2 [vI vals_0, vI vals_1] 90 :: ow A141 l143 c142 94 4 y144 :: ow A146 l148 c147 94 4 y149 :: ow A151 l153 c152 94 4 y154 :: .obj g12 (.map es156 ck157) :: .obj g14 (.map es160 ck161) :: Fz F W :: cs)) (fun g258 => ⟨by kernel_rfl⟩) (fun w_ hM hS => ⟨hM.onew [vI x166.System, vI x166.Ent.N, vI x166.Ent.Gen, vI x166.Value] 94 1 4 rfl (by decide), trivial⟩) (fun g258 => ?_)
        obtain ⟨l259, hv260, hp⟩ := obind hp
        obtain ⟨he261, hb262⟩ := app_some hv260
        obtain ⟨y263, hy264⟩ : ∃ y_, y144 ++ ([vI x166.System, vI x166.Ent.N, vI x166.Ent.Gen, vI x166.Value]) = y_ := ⟨_, rfl⟩
        have h265 : RepL R_api_Event F W l259 y263 := by rw [he261, ← hy264]; exact RepL.app h145 h257
        refine ops_appendO (x := (Go.Operand.tmp 64)) (y := (Go.Operand.tmp 66)) (t := 88) (e := 94) (d := some 67) (n' := l259.length) (z := 4) (m := ([(api_Event.mk x166.System (api_Ent.mk x166.Ent.N x166.Ent.Gen) x166.Value)] : List api_Event).length) (bytes := 32) (xs' := y263) (news := ([vI x166.System, vI x166.Ent.N, vI x166.Ent.Gen, vI x166.Value])) (zv := .agg #[vI 0, vI 0, vI 0, vI 0]) 4 ⟨by kernel_rfl⟩ rfl rfl Try.underlying88 (by kernel_rfl) (by rfl) rfl (fun w_ hM => hM.srcO 0 rfl) h257.len h257.one hb262 (by have z_ := congrArg List.length he261; rw [List.length_append] at z_; exact z_.symm) hy264 (fun _ _ _ _ hS h' => trivial) ?_
        rintro ⟨A266, c267⟩
        refine oQ [oF 4] [(9, sl A266 l259 c267), (15, vP b177 0), (1, sl A_l l c_l), (2, vI s), (4, vP b1 0), (7, vP b2 0), (10, sl A146 l148 c147), (11, sl A151 l153 c152), (12, .map (some g12)), (13, .map (some g14)), (35, sl A_l l c_l), (36, vI (l.length : Int)), (37, vI i164)] (by kernel_rfl) ?_
        refine ops_nil ?_
        exact fin_join HJ9 (A266, c267, l259, y263) ⟨hp, h265⟩ (look_has ⟨rfl, rfl, rfl, rfl, rfl, rfl, rfl, rfl, rfl, rfl, rfl, rfl, rfl, trivial⟩) (fun w_ hM => hM.pick 10 [2, 3, 4, 5, 6, 7, 8, 1, 9] (by kernel_rfl) (by decide) rfl)
       ·
        have hp := cnd_f hc256 hp
        refine st_skip ?_
        exact fin_join HJ9 (A141, c142, l143, y144) ⟨hp, h145⟩ (look_has ⟨rfl, rfl, rfl, rfl, rfl, rfl, rfl, rfl, rfl, rfl, rfl, rfl, rfl, trivial⟩) (fun w_ hM => hM.pick 9 [1, 2, 3, 4, 5, 6, 7, 0, 8] (by kernel_rfl) (by decide) rfl)
     ·
      have hp := cnd_f hc254 hp
      refine oQ [oF 3, oF 4] [(45, vP b177 0), (44, vI s), (43, .bool false), (15, vP b177 0), (1, sl A_l l c_l), (2, vI s), (4, vP b1 0), (7, vP b2 0), (9, sl A141 l143 c142), (10, sl A146 l148 c147), (11, sl A151 l153 c152), (12, .map (some g12)), (13, .map (some g14)), (35, sl A_l l c_l), (36, vI (l.length : Int)), (37, vI i164)] (by kernel_rfl) ?_
      refine ops_mem (d := some 46) (an := [.v (vI x166.System)]) (evs := [ld b177 0 (vI x166.System)]) (v := vI x166.System) ⟨by kernel_rfl⟩ (fun w_ hM hS => ⟨w_, ⟨hM.cell 0 rfl rfl, rfl⟩, hM, trivial⟩) ?_
      refine oQ [oF 6, oF 7, oF 8] [(49, .bool (s == x166.System)), (15, vP b177 0), (1, sl A_l l c_l), (2, vI s), (4, vP b1 0), (7, vP b2 0), (9, sl A141 l143 c142), (10, sl A146 l148 c147), (11, sl A151 l153 c152), (12, .map (some g12)), (13, .map (some g14)), (35, sl A_l l c_l), (36, vI (l.length : Int)), (37, vI i164)] (by kernel_rfl) ?_
      refine ops_bool (t := (s == x166.System)) (l1 := [(49, .bool true), (15, vP b177 0), (1, sl A_l l c_l), (2, vI s), (4, vP b1 0), (7, vP b2 0), (9, sl A141 l143 c142), (10, sl A146 l148 c147), (11, sl A151 l153 c152), (12, .map (some g12)), (13, .map (some g14)), (35, sl A_l l c_l), (36, vI (l.length : Int)), (37, vI i164)]) (l2 := [(49, .bool false), (15, vP b177 0), (1, sl A_l l c_l), (2, vI s), (4, vP b1 0), (7, vP b2 0), (9, sl A141 l143 c142), (10, sl A146 l148 c147), (11, sl A151 l153 c152), (12, .map (some g12)), (13, .map (some g14)), (35, sl A_l l c_l), (36, vI (l.length : Int)), (37, vI i164)]) (fun h => by rw [h]) (fun h => by rw [h]) (fun hc268 => ?_) (fun hc268 => ?_)
      ·
       have hp := cnd_t hc268 hp
       refine oQ [oF 9] [(50, vP b177 3), (49, .bool true), (15, vP b177 0), (1, sl A_l l c_l), (2, vI s), (4, vP b1 0), (7, vP b2 0), (9, sl A141 l143 c142), (10, sl A146 l148 c147), (11, sl A151 l153 c152), (12, .map (some g12)), (13, .map (some g14)), (35, sl A_l l c_l), (36, vI (l.length : Int)), (37, vI i164)] (by kernel_rfl) ?_
       refine ops_mem (d := some 51) (an := [.v (vI x166.Value)]) (evs := [ld b177 3 (vI x166.Value)]) (v := vI x166.Value) ⟨by kernel_rfl⟩ (fun w_ hM hS => ⟨w_, ⟨hM.cell 0 rfl rfl, rfl⟩, hM, trivial⟩) ?_
       refine oQ [oF 11] [(52, vP b2 0), (51, vI x166.Value), (49, .bool true), (15, vP b177 0), (1, sl A_l l c_l), (2, vI s), (4, vP b1 0), (7, vP b2 0), (9, sl A141 l143 c142), (10, sl A146 l148 c147), (11, sl A151 l153 c152), (12, .map (some g12)), (13, .map (some g14)), (35, sl A_l l c_l), (36, vI (l.length : Int)), (37, vI i164)] (by kernel_rfl) ?_
       refine ops_mem (d := some 53) (an := [.v (vI vals_0)]) (evs := [ld b2 0 (vI vals_0)]) (v := vI vals_0) ⟨by kernel_rfl⟩ (fun w_ hM hS => ⟨w_, ⟨hM.cell 2 rfl rfl, rfl⟩, hM, trivial⟩) ?_
       refine oQ [oF 13, oF 14] [(55, .bool (decide (x166.Value < vals_0))), (49, .bool true), (15, vP b177 0), (1, sl A_l l c_l), (2, vI s), (4, vP b1 0), (7, vP b2 0), (9, sl A141 l143 c142), (10, sl A146 l148 c147), (11, sl A151 l153 c152), (12, .map (some g12)), (13, .map (some g14)), (35, sl A_l l c_l), (36, vI (l.length : Int)), (37, vI i164)] (by kernel_rfl) ?_
       refine ops_bool (t := decide (x166.Value < vals_0)) (l1 := [(55, .bool true), (49, .bool true), (15, vP b177 0), (1, sl A_l l c_l), (2, vI s), (4, vP b1 0), (7, vP b2 0), (9, sl A141 l143 c142), (10, sl A146 l148 c147), (11, sl A151 l153 c152), (12, .map (some g12)), (13, .map (some g14)), (35, sl A_l l c_l), (36, vI (l.length : Int)), (37, vI i164)]) (l2 := [(55, .bool false), (49, .bool true), (15, vP b177 0), (1, sl A_l l c_l), (2, vI s), (4, vP b1 0), (7, vP b2 0), (9, sl A141 l143 c142), (10, sl A146 l148 c147), (11, sl A151 l153 c152), (12, .map (some g12)), (13, .map (some g14)), (35, sl A_l l c_l), (36, vI (l.length : Int)), (37, vI i164)]) (fun h => by rw [h]) (fun h => by rw [h]) (fun hc269 => ?_) (fun hc269 => ?_)
       ·
        have hp := cnd_t hc269 hp
        refine oQ [oF 15, oF 16, oF 17, oF 18, oF 19, oF 20, oF 21, oF 22] [(63, .bool false), (15, vP b177 0), (1, sl A_l l c_l), (2, vI s), (4, vP b1 0), (7, vP b2 0), (9, sl A141 l143 c142), (10, sl A146 l148 c147), (11, sl A151 l153 c152), (12, .map (some g12)), (13, .map (some g14)), (35, sl A_l l c_l), (36, vI (l.length : Int)), (37, vI i164)] (by kernel_rfl) ?_
        refine ops_nil (fin_then (st_false rfl (st_skip ?_)))
        exact fin_join HJ9 (A141, c142, l143, y144) ⟨hp, h145⟩ (look_has ⟨rfl, rfl, rfl, rfl, rfl, rfl, rfl, rfl, rfl, rfl, rfl, rfl, rfl, trivial⟩) (fun w_ hM => hM.pick 9 [1, 2, 3, 4, 5, 6, 7, 0, 8] (by kernel_rfl) (by decide) rfl)
       ·
        have hp := cnd_f hc269 hp
        refine oQ [oF 15] [(56, vP b177 3), (55, .bool false), (49, .bool true), (15, vP b177 0), (1, sl A_l l c_l), (2, vI s), (4, vP b1 0), (7, vP b2 0), (9, sl A141 l143 c142), (10, sl A146 l148 c147), (11, sl A151 l153 c152), (12, .map (some g12)), (13, .map (some g14)), (35, sl A_l l c_l), (36, vI (l.length : Int)), (37, vI i164)] (by kernel_rfl) ?_
        refine ops_mem (d := some 57) (an := [.v (vI x166.Value)]) (evs := [ld b177 3 (vI x166.Value)]) (v := vI x166.Value) ⟨by kernel_rfl⟩ (fun w_ hM hS => ⟨w_, ⟨hM.cell 0 rfl rfl, rfl⟩, hM, trivial⟩) ?_
        refine oQ [oF 17] [(58, vP b2 1), (57, vI x166.Value), (55, .bool false), (49, .bool true), (15, vP b177 0), (1, sl A_l l c_l), (2, vI s), (4, vP b1 0), (7, vP b2 0), (9, sl A141 l143 c142), (10, sl A146 l148 c147), (11, sl A151 l153 c152), (12, .map (some g12)), (13, .map (some g14)), (35, sl A_l l c_l), (36, vI (l.length : Int)), (37, vI i164)] (by kernel_rfl) ?_
        refine ops_mem (d := some 59) (an := [.v (vI vals_1)]) (evs := [ld b2 1 (vI vals_1)]) (v := vI vals_1) ⟨by kernel_rfl⟩ (fun w_ hM hS => ⟨w_, ⟨hM.cell 2 rfl rfl, rfl⟩, hM, trivial⟩) ?_
        refine oQ [oF 19, oF 20, oF 21, oF 22] [(63, .bool (!(decide (vals_1 < x166.Value)))), (15, vP b177 0), (1, sl A_l l c_l), (2, vI s), (4, vP b1 0), (7, vP b2 0), (9, sl A141 l143 c142), (10, sl A146 l148 c147), (11, sl A151 l153 c152), (12, .map (some g12)), (13, .map (some g14)), (35, sl A_l l c_l), (36, vI (l.length : Int)), (37, vI i164)] (by kernel_rfl) ?_
        refine ops_nil (fin_then ?_)
        refine st_if (b := !(decide (vals_1 < x166.Value))) rfl (fun hc270 => ?_) (fun hc270 => ?_)
        ·
         have hp := cnd_t hc270 hp
         refine st_region [oF 0, oF 1, oF 2, oF 3, oF 4] (by rfl) ?_
         refine oQ [oF 0] [(64, sl A141 l143 c142), (15, vP b177 0), (1, sl A_l l c_l), (2, vI s), (4, vP b1 0), (7, vP b2 0), (9, sl A141 l143 c142), (10, sl A146 l148 c147), (11, sl A151 l153 c152), (12, .map (some g12)), (13, .map (some g14)), (35, sl A_l l c_l), (36, vI (l.length : Int)), (37, vI i164)] (by kernel_rfl) ?_
         refine ops_mem (d := some 65) (an := [.v (vI x166.System), .v (vI x166.Ent.N), .v (vI x166.Ent.Gen), .v (vI x166.Value)]) (evs := [ld b177 0 (vI x166.System), ld b177 1 (vI x166.Ent.N), ld b177 2 (vI x166.Ent.Gen), ld b177 3 (vI x166.Value)]) (v := .agg #[vI x166.System, vI x166.Ent.N, vI x166.Ent.Gen, vI x166.Value]) ⟨by kernel_rfl⟩ (fun w_ hM hS => ⟨w_, ⟨hM.cell 0 rfl rfl, hM.cell 0 rfl rfl, hM.cell 0 rfl rfl, hM.cell 0 rfl rfl, rfl⟩, hM, trivial⟩) ?_
         have h271 : RepL R_api_Event F W ([(api_Event.mk x166.System (api_Ent.mk x166.Ent.N x166.Ent.Gen) x166.Value)] : List api_Event) ([vI x166.System, vI x166.Ent.N, vI x166.Ent.Gen, vI x166.Value]) := (RepL.cons (R := R_api_Event) (F := F) (w := W) (vs := [vI x166.System, vI x166.Ent.N, vI x166.Ent.Gen, vI x166.Value]) (ys := []) (enc_api_Event) RepL.nil)
         refine ops_new (d := some 66) (o := .cells ([vI x166.System, vI x166.Ent.N, vI x166.Ent.Gen, vI x166.Value] : List Value).toArray 94) (v := fun g272 => .slice (sa g272) ([(api_Event.mk x166.System (api_Ent.mk x166.Ent.N x166.Ent.Gen) x166.Value)] : List api_Event).length 1) (M' := fun g272 => Mem w0 (orow (sa g272) ([(api_Event.mk x166.System (api_Ent.mk x166.Ent.N x166.Ent.Gen) x166.Value)] : List api_Event).length 1 94 4 ([vI x166.System, vI x166.Ent.N, vI x166.Ent.Gen, vI x166.Value]) :: .blk b177 [vI x166.System, vI x166.Ent.N, vI x166.Ent.Gen, vI x166.Value] 94 :: .blk b1 [sl A_w_0 w_0 c_w_0, sl A_w_1 w_1 c_w_1, sl A_w_2 w_2 c_w_2] 26 :: .blk b2 [vI vals_0, vI vals_1] 90 :: ow A141 l143 c142 94 4 y144 :: ow A146 l148 c147 94 4 y149 :: ow A151 l153 c152 94 4 y154 :: .obj g12 (.map es156 ck157) :: .obj g14 (.map es160 ck161) :: Fz F W :: cs)) (fun g272 => ⟨by kernel_rfl⟩) (fun w_ hM hS => ⟨hM.onew [vI x166.System, vI x166.Ent.N, vI x166.Ent.Gen, vI x166.Value] 94 1 4 rfl (by decide), trivial⟩) (fun g272 => ?_)
         obtain ⟨l273, hv274, hp⟩ := obind hp
         obtain ⟨he275, hb276⟩ := app_some hv274
         obtain ⟨y277, hy278⟩ : ∃ y_, y144 ++ ([vI x166.System, vI x166.Ent.N, vI x166.Ent.Gen, vI x166.Value]) = y_ := ⟨_, rfl⟩
         have h279 : RepL R_api_Event F W l273 y277 := by rw [he275, ← hy278]; exact RepL.app h145 h271
         refine ops_appendO (x := (Go.Operand.tmp 64)) (y := (Go.Operand.tmp 66)) (t := 88) (e := 94) (d := some 67) (n' := l273.length) (z := 4) (m := ([(api_Event.mk x166.System (api_Ent.mk x166.Ent.N x166.Ent.Gen) x166.Value)] : List api_Event).length) (bytes := 32) (xs' := y277) (news := ([vI x166.System, vI x166.Ent.N, vI x166.Ent.Gen, vI x166.Value])) (zv := .agg #[vI 0, vI 0, vI 0, vI 0]) 4 ⟨by kernel_rfl⟩ rfl rfl Try.underlying88 (by kernel_rfl) (by rfl) rfl (fun w_ hM => hM.srcO 0 rfl) h271.len h271.one hb276 (by have z_ := congrArg List.length he275; rw [List.length_append] at z_; exact z_.symm) hy278 (fun _ _ _ _ hS h' => trivial) ?_
         rintro ⟨A280, c281⟩
         refine oQ [oF 4] [(9, sl A280 l273 c281), (15, vP b177 0), (1, sl A_l l c_l), (2, vI s), (4, vP b1 0), (7, vP b2 0), (10, sl A146 l148 c147), (11, sl A151 l153 c152), (12, .map (some g12)), (13, .map (some g14)), (35, sl A_l l c_l), (36, vI (l.length : Int)), (37, vI i164)] (by kernel_rfl) ?_
         refine ops_nil ?_
         exact fin_join HJ9 (A280, c281, l273, y277) ⟨hp, h279⟩ (look_has ⟨rfl, rfl, rfl, rfl, rfl, rfl, rfl, rfl, rfl, rfl, rfl, rfl, rfl, trivial⟩) (fun w_ hM => hM.pick 10 [2, 3, 4, 5, 6, 7, 8, 1, 9] (by kernel_rfl) (by decide) rfl)
        ·
         have hp := cnd_f hc270 hp
         refine st_skip ?_
         exact fin_join HJ9 (A141, c142, l143, y144) ⟨hp, h145⟩ (look_has ⟨rfl, rfl, rfl, rfl, rfl, rfl, rfl, rfl, rfl, rfl, rfl, rfl, rfl, trivial⟩) (fun w_ hM => hM.pick 9 [1, 2, 3, 4, 5, 6, 7, 0, 8] (by kernel_rfl) (by decide) rfl)
      ·
       have hp := cnd_f hc268 hp
       refine oQ [oF 9, oF 10, oF 11, oF 12, oF 13, oF 14, oF 15, oF 16, oF 17, oF 18, oF 19, oF 20, oF 21, oF 22] [(63, .bool false), (15, vP b177 0), (1, sl A_l l c_l), (2, vI s), (4, vP b1 0), (7, vP b2 0), (9, sl A141 l143 c142), (10, sl A146 l148 c147), (11, sl A151 l153 c152), (12, .map (some g12)), (13, .map (some g14)), (35, sl A_l l c_l), (36, vI (l.length : Int)), (37, vI i164)] (by kernel_rfl) ?_
       refine ops_nil (fin_then (st_false rfl (st_skip ?_)))
       exact fin_join HJ9 (A141, c142, l143, y144) ⟨hp, h145⟩ (look_has ⟨rfl, rfl, rfl, rfl, rfl, rfl, rfl, rfl, rfl, rfl, rfl, rfl, rfl, trivial⟩) (fun w_ hM => hM.pick 9 [1, 2, 3, 4, 5, 6, 7, 0, 8] (by kernel_rfl) (by decide) rfl)
   ·
    have hp := cnd_f hc165 hp
    refine st_exit (fin_exit_then (fin_exit_then (fin_exit ?_)))
    obtain hq_ := Option.some.inj hp
    subst hq_
    obtain hq_ := hd8 _ rfl
    subst hq_
    have hp : (tourlaw3_EventFilters_j1 w_0 w_1 w_2 l s vals_0 vals_1) l143 l148 l153 l158 l162 = some t9001 := hk8
    exact fin_join HJ1 (A141, c142, l143, y144, A146, c147, l148, y149, A151, c152, l153, y154, es156, ck157, l158, es160, ck161, l162) ⟨hp, h145, h150, h155, h159, h163⟩ (look_has ⟨rfl, rfl, rfl, rfl, rfl, rfl, rfl, rfl, rfl, trivial⟩) (fun w_ hM => hM)
end Go.Proofs.Ythcniadbdjoecaa.E
