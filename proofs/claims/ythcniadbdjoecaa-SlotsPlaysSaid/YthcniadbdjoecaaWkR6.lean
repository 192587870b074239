/- The Go functions come to what the plain functions tell. No condition. -/
import Derived.Test.YthcniadbdjoecaaProg
import Derived.Test.YthcniadbdjoecaaFnR
import Derived.Test.YthcniadbdjoecaaWkR1
import Derived.Test.YthcniadbdjoecaaWkR2
import Derived.Test.YthcniadbdjoecaaWkR3
import Derived.Test.YthcniadbdjoecaaWkR4
import Derived.Test.YthcniadbdjoecaaWkR5
import Derived.Test.YthcniadbdjoecaaEqR
namespace Go.Proofs.Ythcniadbdjoecaa.R
open Go Go.RowKit Go.Proofs.Ythcniadbdjoecaa.Sx
set_option linter.unusedVariables false
set_option maxHeartbeats 4000000
set_option maxRecDepth 100000
def tourlaw1_SlotsPlays__t0 : List Row := [⟨0, 1180591620717411303424, 128⟩, ⟨0, 2361183241434822606848, 4096⟩, ⟨3, 4722366482869645213696, 3541774862152233910272⟩, ⟨0, 9444732965739290427392, 512⟩, ⟨0, 18889465931478580854784, 4096⟩, ⟨28, 37778931862957161709568, 28334198897217871282176⟩, ⟨36, 75557863725914323419136, 42501298345826806923264⟩, ⟨96, 151115727451828646838272, 75557863725914323419136⟩, ⟨128, 302231454903657293676544, 151115727451828646838400⟩, ⟨128, 604462909807314587353088, 151115727451828646842368⟩, ⟨896, 1208925819614629174706176, 1057810092162800527867904⟩, ⟨128, 2417851639229258349412352, 151115727451828646838784⟩, ⟨128, 4835703278458516698824704, 151115727451828646842368⟩, ⟨7296, 9671406556917033397649408, 7404670645139603695075328⟩, ⟨9344, 19342813113834066795298816, 11031448103983491219193856⟩, ⟨16512, 38685626227668133590597632, 19493928841285895442137088⟩]
def tourlaw1_SlotsPlays__t1 : List Row := [⟨0, 77371252455336267181195264, 128⟩, ⟨1, 154742504910672534362390528, 77371252455336267181195264⟩, ⟨0, 309485009821345068724781056, 512⟩, ⟨6, 618970019642690137449562112, 309485009821345068724781056⟩, ⟨10, 1237940039285380274899124224, 773712524553362671811952640⟩, ⟨16, 2475880078570760549798248448, 1237940039285380274899124224⟩, ⟨48, 4951760157141521099596496896, 2475880078570760549798248448⟩, ⟨64, 9903520314283042199192993792, 4951760157141521099596497024⟩, ⟨192, 19807040628566084398385987584, 14855280471424563298789490688⟩, ⟨64, 39614081257132168796771975168, 4951760157141521099596497408⟩, ⟨576, 79228162514264337593543950336, 44565841414273689896368472064⟩, ⟨1088, 158456325028528675187087900672, 84179922671405858693140447232⟩, ⟨2112, 316912650057057350374175801344, 163408085185670196286684397568⟩, ⟨4416, 633825300114114700748351602688, 341671450842764955872158285824⟩, ⟨8256, 1267650600228229401496703205376, 638777060271256221847948099584⟩, ⟨16448, 2535301200456458802993406410752, 1272602360385370922596299702272⟩]
theorem tourlaw1_SlotsPlays_ok (w0 w : World) (cs : List Chunk) (F : Nat → Prop) (W : World) (A_gens : Option Addr) (c_gens : Nat) (gens : List Int) (A_used : Option Addr) (c_used : Nat) (used : List Int) (A_l : Option Addr) (c_l : Nat) (l : List api_Ent) (hM0 : Mem w0 (Fz F W :: cs) w) (h_gens : RdS (Rep.int .i64) F W A_gens c_gens gens) (h_used : RdS (Rep.int .i64) F W A_used c_used used) (h_l : RdS R_api_Ent F W A_l c_l l) (t9001 : Bool) (hp : tourlaw1_SlotsPlays gens used l = some t9001) : Calls Try.prog 5 #[sl A_gens gens c_gens, sl A_used used c_used, sl A_l l c_l] w fun e w' => (True) ∧ e = .returned (.bool t9001) ∧ Mem w0 (Fz F W :: cs) w' := by
 unfold tourlaw1_SlotsPlays at hp
 refine sx_calls Try.func5 rfl (n := 103) (by kernel_rfl) (l := [(0, sl A_gens gens c_gens), (1, sl A_used used c_used), (2, sl A_l l c_l)]) rfl (by rfl) hM0 ?_
 refine st_seq (st_region [oF 0] (by rfl) ?_)
 refine oQ [oF 0] [(0, sl A_gens gens c_gens), (1, sl A_used used c_used), (2, sl A_l l c_l)] (by kernel_rfl) ?_
 refine ops_nil (fin_then (st_seq (st_seq (st_region [oF 0, oF 1] (by rfl) ?_))))
 obtain ⟨x1, hv2, hp⟩ := obind hp
 refine ops_callI (σ := Unit) (d := some 17) (f := 38) (args := #[]) (v := (fun _ => .bool x1)) (I := (fun _ => True)) (M' := (fun _ => Mem w0 (Fz F W :: cs))) ⟨by kernel_rfl⟩ (fun w_ hM hS => (tourlaw1_slotsBegun_ok w0 w_ (cs) F W  hM  x1 hv2).mono (by rintro e w' ⟨-, rfl, h'⟩; have h' : Mem w0 (Fz F W :: cs) w' := h'; exact ⟨(), trivial, rfl, h', trivial⟩)) ?_
 rintro _ -
 refine oQ [oF 1] [(18, .bool (!x1)), (0, sl A_gens gens c_gens), (1, sl A_used used c_used), (2, sl A_l l c_l)] (by kernel_rfl) ?_
 refine ops_nil (fin_then ?_)
 refine st_if (b := !x1) rfl (fun hc3 => ?_) (fun hc3 => ?_)
 ·
  have hp := cnd_t hc3 hp
  refine st_seq (st_region [oF 0] (by rfl) ?_)
  refine oQ [oF 0] [(6, .bool false)] (by kernel_rfl) ?_
  refine ops_nil (fin_then (st_ret (fin_ret_then ?_)))
  have hq_ := Option.some.inj hp
  have hr0_ := hq_
  subst hr0_
  refine fin_ret [.tmp 6] [.bool false] rfl rfl (fun w_ hM => (.tmp rfl .nil)) (fun w_ hM => ?_)
  exact ⟨trivial, rfl, hM⟩
 ·
  have hp := cnd_f hc3 hp
  refine st_skip (fin_then (st_seq (st_region [oF 0, oF 1, oF 2, oF 3, oF 4, oF 5, oF 6, oF 7] (by rfl) ?_)))
  refine oQ [oF 0, oF 1] [(21, sl A_used used c_used), (20, sl A_gens gens c_gens), (0, sl A_gens gens c_gens), (1, sl A_used used c_used), (2, sl A_l l c_l)] (by kernel_rfl) ?_
  obtain ⟨r5, hv4, hp⟩ := obind hp
  rcases r5 with x6 | ⟨x7, x8, x9⟩
  ·
   have hp := (sel_l hp)
   refine ops_callI (σ := Unit) (d := some 22) (f := 39) (args := #[sl A_gens gens c_gens, sl A_used used c_used]) (v := (fun _ => .tuple #[.pointer none, vI x6])) (I := (fun _ => True)) (M' := (fun _ => Mem w0 (Fz F W :: cs))) ⟨by kernel_rfl⟩ (fun w_ hM hS => (slots_Of_ok w0 w_ (cs) F W A_gens c_gens gens A_used c_used used hM h_gens h_used _ hv4).mono (by intro e w' hq_; obtain ⟨-, rfl, h'⟩ := (psel_l hq_); have h' : Mem w0 (Fz F W :: cs) w' := h'; exact ⟨(), trivial, rfl, h', trivial⟩)) ?_
   rintro _ -
   refine oQ [oF 3, oF 4, oF 5, oF 6, oF 7] [(8, vI x6), (7, .pointer none), (0, sl A_gens gens c_gens), (1, sl A_used used c_used), (2, sl A_l l c_l)] (by kernel_rfl) ?_
   refine ops_nil (fin_then (st_seq (st_region [oF 0, oF 1, oF 2, oF 3, oF 4, oF 5, oF 6, oF 7] (by rfl) ?_)))
   refine oQ [oF 0, oF 1] [(27, sl A_used used c_used), (26, sl A_gens gens c_gens), (8, vI x6), (7, .pointer none), (2, sl A_l l c_l)] (by kernel_rfl) ?_
   obtain ⟨r11, hv10, hp⟩ := obind hp
   rcases r11 with x12 | ⟨x13, x14⟩
   ·
    have hp := (sel_l hp)
    refine ops_callI (σ := Unit) (d := some 28) (f := 40) (args := #[sl A_gens gens c_gens, sl A_used used c_used]) (v := (fun _ => .tuple #[.pointer none, vI x12])) (I := (fun _ => True)) (M' := (fun _ => Mem w0 (Fz F W :: cs))) ⟨by kernel_rfl⟩ (fun w_ hM hS => (tourref1_RoomOf_ok w0 w_ (cs) F W A_gens c_gens gens A_used c_used used hM h_gens h_used _ hv10).mono (by intro e w' hq_; obtain ⟨-, rfl, h'⟩ := (psel_l hq_); have h' : Mem w0 (Fz F W :: cs) w' := h'; exact ⟨(), trivial, rfl, h', trivial⟩)) ?_
    rintro _ -
    refine oQ [oF 3, oF 4, oF 5, oF 6, oF 7] [(10, vI x12), (9, .pointer none), (8, vI x6), (7, .pointer none), (2, sl A_l l c_l)] (by kernel_rfl) ?_
    refine ops_nil (fin_then (st_seq (st_seq (st_region [oF 0, oF 1, oF 2, oF 3, oF 4, oF 5, oF 6, oF 7, oF 8, oF 9] (by rfl) ?_))))
    refine oQ [oF 0, oF 1, oF 2, oF 3] [(34, .bool (!(x6 == x12))), (9, .pointer none), (8, vI x6), (7, .pointer none), (2, sl A_l l c_l)] (by kernel_rfl) ?_
    refine ops_bool (t := !(x6 == x12)) (l1 := [(34, .bool true), (9, .pointer none), (8, vI x6), (7, .pointer none), (2, sl A_l l c_l)]) (l2 := [(34, .bool false), (9, .pointer none), (8, vI x6), (7, .pointer none), (2, sl A_l l c_l)]) (fun h => by rw [h]) (fun h => by rw [h]) (fun hc15 => ?_) (fun hc15 => ?_)
    ·
     have hp := cnd_t hc15 hp
     refine oQ [oF 4, oF 5, oF 6, oF 7, oF 8, oF 9] [(40, .bool true), (9, .pointer none), (8, vI x6), (7, .pointer none), (2, sl A_l l c_l)] (by kernel_rfl) ?_
     refine ops_nil (fin_then (st_true rfl (st_seq (st_region [oF 0] (by rfl) ?_))))
     refine oQ [oF 0] [(6, .bool false)] (by kernel_rfl) ?_
     refine ops_nil (fin_then (st_ret (fin_ret_then ?_)))
     have hq_ := Option.some.inj hp
     have hr0_ := hq_
     subst hr0_
     refine fin_ret [.tmp 6] [.bool false] rfl rfl (fun w_ hM => (.tmp rfl .nil)) (fun w_ hM => ?_)
     exact ⟨trivial, rfl, hM⟩
    ·
     have hp := cnd_f hc15 hp
     refine oQ [oF 4, oF 5, oF 6, oF 7, oF 8, oF 9] [(40, .bool (!(true == !(x6 == 0)))), (9, .pointer none), (8, vI x6), (7, .pointer none), (2, sl A_l l c_l)] (by kernel_rfl) ?_
     refine ops_nil (fin_then ?_)
     refine st_if (b := !(true == !(x6 == 0))) rfl (fun hc16 => ?_) (fun hc16 => ?_)
     ·
      have hp := cnd_t hc16 hp
      refine st_seq (st_region [oF 0] (by rfl) ?_)
      refine oQ [oF 0] [(6, .bool false)] (by kernel_rfl) ?_
      refine ops_nil (fin_then (st_ret (fin_ret_then ?_)))
      have hq_ := Option.some.inj hp
      have hr0_ := hq_
      subst hr0_
      refine fin_ret [.tmp 6] [.bool false] rfl rfl (fun w_ hM => (.tmp rfl .nil)) (fun w_ hM => ?_)
      exact ⟨trivial, rfl, hM⟩
     ·
      have hp := cnd_f hc16 hp
      refine st_skip (fin_then (st_seq (st_seq (st_region [oF 0, oF 1] (by rfl) ?_))))
      refine oQ [oF 0, oF 1] [(42, .bool (!(x6 == 0))), (9, .pointer none), (7, .pointer none), (2, sl A_l l c_l)] (by kernel_rfl) ?_
      refine ops_nil (fin_then ?_)
      refine st_if (b := !(x6 == 0)) rfl (fun hc17 => ?_) (fun hc17 => ?_)
      ·
       have hp := cnd_t hc17 hp
       refine st_seq (st_region [oF 0] (by rfl) ?_)
       refine oQ [oF 0] [(6, .bool true)] (by kernel_rfl) ?_
       refine ops_nil (fin_then (st_ret (fin_ret_then ?_)))
       have hq_ := Option.some.inj hp
       have hr0_ := hq_
       subst hr0_
       refine fin_ret [.tmp 6] [.bool true] rfl rfl (fun w_ hM => (.tmp rfl .nil)) (fun w_ hM => ?_)
       exact ⟨trivial, rfl, hM⟩
      ·
       have hp := cnd_f hc17 hp
       refine st_skip (fin_then ?_)
       refine st_join1 (σ := Unit) (L := fun _ => []) (N := fun _ => Mem w0 (Fz F W :: cs)) (I := fun _ => (tourlaw1_SlotsPlays_j1 = some t9001)) ?_ ?_
       ·
        rintro _ hp
        unfold tourlaw1_SlotsPlays_j1 at hp
        refine st_seq (st_region [oF 0] (by rfl) ?_)
        refine oQ [oF 0] [(6, .bool true)] (by kernel_rfl) ?_
        refine ops_nil (fin_then (st_ret ?_))
        have hq_ := Option.some.inj hp
        have hr0_ := hq_
        subst hr0_
        refine fin_ret [.tmp 6] [.bool true] rfl rfl (fun w_ hM => (.tmp rfl .nil)) (fun w_ hM => ?_)
        exact ⟨trivial, rfl, hM⟩
       ·
        intro HJ1
        refine st_seq (st_seq (st_region [oF 0, oF 1, oF 2] (by rfl) ?_))
        refine oQ [oF 0, oF 1, oF 2] [(45, vI 0), (44, vI (l.length : Int)), (43, sl A_l l c_l), (9, .pointer none), (7, .pointer none)] (by kernel_rfl) ?_
        refine ops_nil (fin_then (st_block ?_))
        obtain ⟨r2, hl2, hk2⟩ := obind hp
        refine st_loopP (σ := Unit) (ρ := Unit) (γ := Unit) hl2 () (fun s_ g_ => match s_, g_ with | _, _ => [(7, .pointer none), (9, .pointer none), (43, sl A_l l c_l), (44, vI (l.length : Int)), (45, vI 0)]) (fun s_ g_ => match s_, g_ with | _, _ => Mem w0 (Fz F W :: cs)) (fun s_ g_ => match s_, g_ with | _, _ => True) trivial (look_has ⟨rfl, rfl, rfl, rfl, rfl, trivial⟩) (fun w_ hM => hM) ?_
        rintro _ _ o2 - hs_ hd2
        have hp : (tourlaw1_SlotsPlays_l2 l) = some o2 := hs_
        clear hs_
        unfold tourlaw1_SlotsPlays_l2 at hp
        refine st_seq (st_region [oF 0] (by rfl) ?_)
        refine oQ [oF 0] [(46, .bool (decide (0 < (l.length : Int)))), (7, .pointer none), (9, .pointer none), (43, sl A_l l c_l), (44, vI (l.length : Int)), (45, vI 0)] (by kernel_rfl) ?_
        refine ops_nil (fin_then (st_seq ?_))
        refine st_if (b := decide (0 < (l.length : Int))) rfl (fun hc18 => ?_) (fun hc18 => ?_)
        ·
         have hp := cnd_t hc18 hp
         refine st_skip (fin_then (st_seq (st_block (st_seq (st_region [oF 0, oF 1, oF 2, oF 3] (by rfl) ?_)))))
         obtain ⟨x19, hv20, hp⟩ := obind hp
         obtain ⟨m21, hm22, hx23⟩ := idx_some hv20
         have hl26 := (List.getElem?_eq_some_iff.1 hx23).1
         obtain ⟨ad27, vs24, hA28, hr25, hq29⟩ := RdS.el h_l hx23
         obtain rfl := dec_api_Ent hr25
         refine ops_val (op := (.indexAddr 40 (.tmp 43) (.tmp 45))) (d := some 47) (v := .pointer (some (ad27.add (m21 * 2)))) ⟨by kernel_rfl⟩ (run_indexA hA28 Try.underlying40 (z := 2) (by kernel_rfl) rfl rfl hm22 hl26) ?_
         refine ops_mem (d := some 48) (an := [.v (vI x19.N), .v (vI x19.Gen)]) (evs := [.load (ad27.add (m21 * 2)) (vI x19.N), .load ((ad27.add (m21 * 2)).add 1) (vI x19.Gen)]) (v := .agg #[vI x19.N, vI x19.Gen]) ⟨by kernel_rfl⟩ (fun w_ hM hS => ⟨w_, ⟨hM.elcell 0 rfl hq29 0 rfl, hM.elcell 0 rfl hq29 1 rfl, rfl⟩, hM, trivial⟩) ?_
         refine ops_newB (d := some 12) [vI 0, vI 0] 35 (fun b30 => ⟨by kernel_rfl⟩) (fun w_ hM hS => trivial) (fun b30 => ?_)
         refine ops_store (an := []) (evs := [sr b30 0 (vI x19.N), sr b30 1 (vI x19.Gen)]) ⟨by kernel_rfl⟩ (fun w_ hM hS => let ⟨w', he, h'⟩ := hM.evs_stores [vI x19.N, vI x19.Gen] 0 rfl 0 (Nat.le_of_ble_eq_true rfl); ⟨w', he, h', trivial⟩) ?_
         refine ops_nil (fin_then (st_seq (st_seq (st_region [oF 0, oF 1, oF 2] (by rfl) ?_))))
         refine oQ [oF 0] [(49, vP b30 0), (12, vP b30 0), (7, .pointer none), (9, .pointer none), (43, sl A_l l c_l), (44, vI (l.length : Int)), (45, vI 0)] (by kernel_rfl) ?_
         refine ops_mem (d := some 50) (an := [.v (vI x19.N)]) (evs := [ld b30 0 (vI x19.N)]) (v := vI x19.N) ⟨by kernel_rfl⟩ (fun w_ hM hS => ⟨w_, ⟨hM.cell 0 rfl rfl, rfl⟩, hM, trivial⟩) ?_
         refine oQ [oF 2] [(51, .bool (x19.N == (-1))), (12, vP b30 0), (7, .pointer none), (9, .pointer none), (43, sl A_l l c_l), (44, vI (l.length : Int)), (45, vI 0)] (by kernel_rfl) ?_
         refine ops_nil (fin_then ?_)
         refine st_if (b := (x19.N == (-1))) rfl (fun hc31 => ?_) (fun hc31 => ?_)
         ·
          have hp := cnd_t hc31 hp
          refine st_seq (st_region [oF 0, oF 1, oF 2, oF 3, oF 4, oF 5, oF 6, oF 7] (by rfl) ?_)
          refine oQ [oF 0] [(53, .pointer none), (7, .pointer none), (9, .pointer none), (43, sl A_l l c_l), (44, vI (l.length : Int)), (45, vI 0)] (by kernel_rfl) ?_
          cases hp
         ·
          have hp := cnd_f hc31 hp
          refine st_seq ?_
          refine st_region_fast tourlaw1_SlotsPlays__t0 [oT 0, oT 1, oT 3, oT 4, oF 2, oF 5, oT 6, oT 7, oT 8, oT 9, oT 11, oT 12, oF 10, oF 13, oT 14, oT 15] (Mem w0 (.blk b30 [vI x19.N, vI x19.Gen] 35 :: Fz F W :: cs)) (by kernel_rfl) (by kernel_rfl) (by kernel_rfl) (by kernel_rfl) (by kernel_rfl) (fun _ d _ _ _ h => by cases d <;> exact h) (M' := Mem w0 (.blk b30 [vI x19.N, vI x19.Gen] 35 :: Fz F W :: cs)) (fun w_ hM => ⟨hM.drew, hM.drew.sub (.cons_cons _ (.cons_cons _ (.refl _)))⟩) ?_
          refine oQ [oT 0] [(70, .pointer none), (12, vP b30 0), (7, .pointer none), (9, .pointer none), (43, sl A_l l c_l), (44, vI (l.length : Int)), (45, vI 0)] (by kernel_rfl) ?_
          refine ops_load (d := some 71) (an := [.v (vI x19.N), .v (vI x19.Gen)]) (evs := [ld b30 0 (vI x19.N), ld b30 1 (vI x19.Gen)]) (v := .agg #[vI x19.N, vI x19.Gen]) ⟨by kernel_rfl⟩ (fun w_ hM => ⟨hM.cell 0 rfl rfl, hM.cell 0 rfl rfl, rfl⟩) ?_
          refine oQ [oT 3] [(73, .pointer none), (71, .agg #[vI x19.N, vI x19.Gen]), (70, .pointer none), (12, vP b30 0), (7, .pointer none), (9, .pointer none), (43, sl A_l l c_l), (44, vI (l.length : Int)), (45, vI 0)] (by kernel_rfl) ?_
          refine ops_load (d := some 74) (an := [.v (vI x19.N), .v (vI x19.Gen)]) (evs := [ld b30 0 (vI x19.N), ld b30 1 (vI x19.Gen)]) (v := .agg #[vI x19.N, vI x19.Gen]) ⟨by kernel_rfl⟩ (fun w_ hM => ⟨hM.cell 0 rfl rfl, hM.cell 0 rfl rfl, rfl⟩) ?_
          cases hp
        ·
         have hp := cnd_f hc18 hp
         refine st_exit (fin_exit_then (fin_exit_then (fin_exit ?_)))
         obtain hq_ := Option.some.inj hp
         subst hq_
         obtain hq_ := hd2 _ rfl
         subst hq_
         have hp : tourlaw1_SlotsPlays_j1 = some t9001 := hk2
         exact fin_join HJ1 () hp (look_has trivial) (fun w_ hM => hM)
   ·
    have hp := (un2_at (sel_r hp))
    refine ops_callI (σ := Nat × (Option Addr) × Nat × (List Value) × (Option Addr) × Nat × (List Value)) (d := some 28) (f := 40) (args := #[sl A_gens gens c_gens, sl A_used used c_used]) (v := (fun x_ => match x_ with | (b32, A33, c34, y35, A36, c37, y38) => .tuple #[vP b32 0, vI 0])) (I := (fun x_ => match x_ with | (b32, A33, c34, y35, A36, c37, y38) => (RepL (Rep.int .i64) F W x13 y35) ∧ (RepL Rep.bool F W x14 y38))) (M' := (fun x_ => match x_ with | (b32, A33, c34, y35, A36, c37, y38) => Mem w0 (.blk b32 [sl A33 x13 c34, sl A36 x14 c37] 86 :: ow A33 x13 c34 3 1 y35 :: ow A36 x14 c37 4 1 y38 :: Fz F W :: cs))) ⟨by kernel_rfl⟩ (fun w_ hM hS => (tourref1_RoomOf_ok w0 w_ (cs) F W A_gens c_gens gens A_used c_used used hM h_gens h_used _ hv10).mono (by intro e w' hq_; obtain ⟨b32, A33, c34, y35, A36, c37, y38, ⟨h39, h40⟩, rfl, h'⟩ := (pun2_at (psel_r hq_)); have h' : Mem w0 (.blk b32 [sl A33 x13 c34, sl A36 x14 c37] 86 :: ow A33 x13 c34 3 1 y35 :: ow A36 x14 c37 4 1 y38 :: Fz F W :: cs) w' := h'; exact ⟨(b32, A33, c34, y35, A36, c37, y38), ⟨h39, h40⟩, rfl, h', trivial⟩)) ?_
    rintro ⟨b32, A33, c34, y35, A36, c37, y38⟩ ⟨h39, h40⟩
    refine oQ [oF 3, oF 4, oF 5, oF 6, oF 7] [(10, vI 0), (9, vP b32 0), (8, vI x6), (7, .pointer none), (2, sl A_l l c_l)] (by kernel_rfl) ?_
    refine ops_nil (fin_then (st_seq (st_seq (st_region [oF 0, oF 1, oF 2, oF 3, oF 4, oF 5, oF 6, oF 7, oF 8, oF 9] (by rfl) ?_))))
    refine oQ [oF 0, oF 1, oF 2, oF 3] [(34, .bool (!(x6 == 0))), (9, vP b32 0), (8, vI x6), (7, .pointer none), (2, sl A_l l c_l)] (by kernel_rfl) ?_
    refine ops_bool (t := !(x6 == 0)) (l1 := [(34, .bool true), (9, vP b32 0), (8, vI x6), (7, .pointer none), (2, sl A_l l c_l)]) (l2 := [(34, .bool false), (9, vP b32 0), (8, vI x6), (7, .pointer none), (2, sl A_l l c_l)]) (fun h => by rw [h]) (fun h => by rw [h]) (fun hc41 => ?_) (fun hc41 => ?_)
    ·
     have hp := cnd_t hc41 hp
     refine oQ [oF 4, oF 5, oF 6, oF 7, oF 8, oF 9] [(40, .bool true), (9, vP b32 0), (8, vI x6), (7, .pointer none), (2, sl A_l l c_l)] (by kernel_rfl) ?_
     refine ops_nil (fin_then (st_true rfl (st_seq (st_region [oF 0] (by rfl) ?_))))
     refine oQ [oF 0] [(6, .bool false)] (by kernel_rfl) ?_
     refine ops_nil (fin_then (st_ret (fin_ret_then ?_)))
     have hq_ := Option.some.inj hp
     have hr0_ := hq_
     subst hr0_
     refine fin_ret [.tmp 6] [.bool false] rfl rfl (fun w_ hM => (.tmp rfl .nil)) (fun w_ hM => ?_)
     exact ⟨trivial, rfl, hM.pick 4 [3] (by kernel_rfl) (by decide) rfl⟩
    ·
     have hp := cnd_f hc41 hp
     refine oQ [oF 4, oF 5, oF 6, oF 7, oF 8, oF 9] [(40, .bool (!(true == !(x6 == 0)))), (9, vP b32 0), (8, vI x6), (7, .pointer none), (2, sl A_l l c_l)] (by kernel_rfl) ?_
     refine ops_nil (fin_then ?_)
     refine st_if (b := !(true == !(x6 == 0))) rfl (fun hc42 => ?_) (fun hc42 => ?_)
     ·
      have hp := cnd_t hc42 hp
      refine st_seq (st_region [oF 0] (by rfl) ?_)
      refine oQ [oF 0] [(6, .bool false)] (by kernel_rfl) ?_
      refine ops_nil (fin_then (st_ret (fin_ret_then ?_)))
      have hq_ := Option.some.inj hp
      have hr0_ := hq_
      subst hr0_
      refine fin_ret [.tmp 6] [.bool false] rfl rfl (fun w_ hM => (.tmp rfl .nil)) (fun w_ hM => ?_)
      exact ⟨trivial, rfl, hM.pick 4 [3] (by kernel_rfl) (by decide) rfl⟩
     ·
      have hp := cnd_f hc42 hp
      refine st_skip (fin_then (st_seq (st_seq (st_region [oF 0, oF 1] (by rfl) ?_))))
      refine oQ [oF 0, oF 1] [(42, .bool (!(x6 == 0))), (9, vP b32 0), (7, .pointer none), (2, sl A_l l c_l)] (by kernel_rfl) ?_
      refine ops_nil (fin_then ?_)
      refine st_conv (l' := [(42, .bool false), (9, vP b32 0), (7, .pointer none), (2, sl A_l l c_l)]) (by rw [hc41]) (fun _ h => h) ?_
      refine st_false rfl (st_skip (fin_then ?_))
      refine st_join1 (σ := Unit) (L := fun _ => []) (N := fun _ => Mem w0 (Fz F W :: cs)) (I := fun _ => (tourlaw1_SlotsPlays_j3 = some t9001)) ?_ ?_
      ·
       rintro _ hp
       unfold tourlaw1_SlotsPlays_j3 at hp
       refine st_seq (st_region [oF 0] (by rfl) ?_)
       refine oQ [oF 0] [(6, .bool true)] (by kernel_rfl) ?_
       refine ops_nil (fin_then (st_ret ?_))
       have hq_ := Option.some.inj hp
       have hr0_ := hq_
       subst hr0_
       refine fin_ret [.tmp 6] [.bool true] rfl rfl (fun w_ hM => (.tmp rfl .nil)) (fun w_ hM => ?_)
       exact ⟨trivial, rfl, hM⟩
      ·
       intro HJ3
       refine st_seq (st_seq (st_region [oF 0, oF 1, oF 2] (by rfl) ?_))
       refine oQ [oF 0, oF 1, oF 2] [(45, vI 0), (44, vI (l.length : Int)), (43, sl A_l l c_l), (9, vP b32 0), (7, .pointer none)] (by kernel_rfl) ?_
       refine ops_nil (fin_then (st_block ?_))
       obtain ⟨r4, hl4, hk4⟩ := obind hp
       refine st_loopP (σ := Unit) (ρ := Unit) (γ := Unit) hl4 () (fun s_ g_ => match s_, g_ with | _, _ => [(7, .pointer none), (9, vP b32 0), (43, sl A_l l c_l), (44, vI (l.length : Int)), (45, vI 0)]) (fun s_ g_ => match s_, g_ with | _, _ => Mem w0 (.blk b32 [sl A33 x13 c34, sl A36 x14 c37] 86 :: ow A33 x13 c34 3 1 y35 :: ow A36 x14 c37 4 1 y38 :: Fz F W :: cs)) (fun s_ g_ => match s_, g_ with | _, _ => True) trivial (look_has ⟨rfl, rfl, rfl, rfl, rfl, trivial⟩) (fun w_ hM => hM) ?_
       rintro _ _ o4 - hs_ hd4
       have hp : (tourlaw1_SlotsPlays_l4 l) = some o4 := hs_
       clear hs_
       unfold tourlaw1_SlotsPlays_l4 at hp
       refine st_seq (st_region [oF 0] (by rfl) ?_)
       refine oQ [oF 0] [(46, .bool (decide (0 < (l.length : Int)))), (7, .pointer none), (9, vP b32 0), (43, sl A_l l c_l), (44, vI (l.length : Int)), (45, vI 0)] (by kernel_rfl) ?_
       refine ops_nil (fin_then (st_seq ?_))
       refine st_if (b := decide (0 < (l.length : Int))) rfl (fun hc43 => ?_) (fun hc43 => ?_)
       ·
        have hp := cnd_t hc43 hp
        refine st_skip (fin_then (st_seq (st_block (st_seq (st_region [oF 0, oF 1, oF 2, oF 3] (by rfl) ?_)))))
        obtain ⟨x44, hv45, hp⟩ := obind hp
        obtain ⟨m46, hm47, hx48⟩ := idx_some hv45
        have hl51 := (List.getElem?_eq_some_iff.1 hx48).1
        obtain ⟨ad52, vs49, hA53, hr50, hq54⟩ := RdS.el h_l hx48
        obtain rfl := dec_api_Ent hr50
        refine ops_val (op := (.indexAddr 40 (.tmp 43) (.tmp 45))) (d := some 47) (v := .pointer (some (ad52.add (m46 * 2)))) ⟨by kernel_rfl⟩ (run_indexA hA53 Try.underlying40 (z := 2) (by kernel_rfl) rfl rfl hm47 hl51) ?_
        refine ops_mem (d := some 48) (an := [.v (vI x44.N), .v (vI x44.Gen)]) (evs := [.load (ad52.add (m46 * 2)) (vI x44.N), .load ((ad52.add (m46 * 2)).add 1) (vI x44.Gen)]) (v := .agg #[vI x44.N, vI x44.Gen]) ⟨by kernel_rfl⟩ (fun w_ hM hS => ⟨w_, ⟨hM.elcell 3 rfl hq54 0 rfl, hM.elcell 3 rfl hq54 1 rfl, rfl⟩, hM, trivial⟩) ?_
        refine ops_newB (d := some 12) [vI 0, vI 0] 35 (fun b55 => ⟨by kernel_rfl⟩) (fun w_ hM hS => trivial) (fun b55 => ?_)
        refine ops_store (an := []) (evs := [sr b55 0 (vI x44.N), sr b55 1 (vI x44.Gen)]) ⟨by kernel_rfl⟩ (fun w_ hM hS => let ⟨w', he, h'⟩ := hM.evs_stores [vI x44.N, vI x44.Gen] 0 rfl 0 (Nat.le_of_ble_eq_true rfl); ⟨w', he, h', trivial⟩) ?_
        refine ops_nil (fin_then (st_seq (st_seq (st_region [oF 0, oF 1, oF 2] (by rfl) ?_))))
        refine oQ [oF 0] [(49, vP b55 0), (12, vP b55 0), (7, .pointer none), (9, vP b32 0), (43, sl A_l l c_l), (44, vI (l.length : Int)), (45, vI 0)] (by kernel_rfl) ?_
        refine ops_mem (d := some 50) (an := [.v (vI x44.N)]) (evs := [ld b55 0 (vI x44.N)]) (v := vI x44.N) ⟨by kernel_rfl⟩ (fun w_ hM hS => ⟨w_, ⟨hM.cell 0 rfl rfl, rfl⟩, hM, trivial⟩) ?_
        refine oQ [oF 2] [(51, .bool (x44.N == (-1))), (12, vP b55 0), (7, .pointer none), (9, vP b32 0), (43, sl A_l l c_l), (44, vI (l.length : Int)), (45, vI 0)] (by kernel_rfl) ?_
        refine ops_nil (fin_then ?_)
        refine st_if (b := (x44.N == (-1))) rfl (fun hc56 => ?_) (fun hc56 => ?_)
        ·
         have hp := cnd_t hc56 hp
         refine st_seq (st_region [oF 0, oF 1, oF 2, oF 3, oF 4, oF 5, oF 6, oF 7] (by rfl) ?_)
         refine oQ [oF 0] [(53, .pointer none), (7, .pointer none), (9, vP b32 0), (43, sl A_l l c_l), (44, vI (l.length : Int)), (45, vI 0)] (by kernel_rfl) ?_
         cases hp
        ·
         have hp := cnd_f hc56 hp
         refine st_seq ?_
         refine st_region_fast tourlaw1_SlotsPlays__t0 [oT 0, oT 1, oT 3, oT 4, oF 2, oF 5, oT 6, oT 7, oT 8, oT 9, oT 11, oT 12, oF 10, oF 13, oT 14, oT 15] (Mem w0 (.blk b55 [vI x44.N, vI x44.Gen] 35 :: Fz F W :: cs)) (by kernel_rfl) (by kernel_rfl) (by kernel_rfl) (by kernel_rfl) (by kernel_rfl) (fun _ d _ _ _ h => by cases d <;> exact h) (M' := Mem w0 (.blk b55 [vI x44.N, vI x44.Gen] 35 :: .blk b32 [sl A33 x13 c34, sl A36 x14 c37] 86 :: ow A33 x13 c34 3 1 y35 :: ow A36 x14 c37 4 1 y38 :: Fz F W :: cs)) (fun w_ hM => ⟨hM.drew, hM.drew.sub (.cons_cons _ (.cons _ (.cons _ (.cons _ (.cons_cons _ (.refl _))))))⟩) ?_
         refine oQ [oT 0] [(70, .pointer none), (12, vP b55 0), (7, .pointer none), (9, vP b32 0), (43, sl A_l l c_l), (44, vI (l.length : Int)), (45, vI 0)] (by kernel_rfl) ?_
         refine ops_load (d := some 71) (an := [.v (vI x44.N), .v (vI x44.Gen)]) (evs := [ld b55 0 (vI x44.N), ld b55 1 (vI x44.Gen)]) (v := .agg #[vI x44.N, vI x44.Gen]) ⟨by kernel_rfl⟩ (fun w_ hM => ⟨hM.cell 0 rfl rfl, hM.cell 0 rfl rfl, rfl⟩) ?_
         refine oQ [oT 3] [(73, vP b32 0), (71, .agg #[vI x44.N, vI x44.Gen]), (70, .pointer none), (12, vP b55 0), (7, .pointer none), (9, vP b32 0), (43, sl A_l l c_l), (44, vI (l.length : Int)), (45, vI 0)] (by kernel_rfl) ?_
         refine ops_load (d := some 74) (an := [.v (vI x44.N), .v (vI x44.Gen)]) (evs := [ld b55 0 (vI x44.N), ld b55 1 (vI x44.Gen)]) (v := .agg #[vI x44.N, vI x44.Gen]) ⟨by kernel_rfl⟩ (fun w_ hM => ⟨hM.cell 0 rfl rfl, hM.cell 0 rfl rfl, rfl⟩) ?_
         cases hp
       ·
        have hp := cnd_f hc43 hp
        refine st_exit (fin_exit_then (fin_exit_then (fin_exit ?_)))
        obtain hq_ := Option.some.inj hp
        subst hq_
        obtain hq_ := hd4 _ rfl
        subst hq_
        have hp : tourlaw1_SlotsPlays_j3 = some t9001 := hk4
        exact fin_join HJ3 () hp (look_has trivial) (fun w_ hM => hM.pick 4 [3] (by kernel_rfl) (by decide) rfl)
  ·
   have hp := (un3_at (sel_r hp))
   refine ops_callI (σ := Nat × (Option Addr) × Nat × (List Value) × (Option Addr) × Nat × (List Value) × (Option Addr) × Nat × (List Value)) (d := some 22) (f := 39) (args := #[sl A_gens gens c_gens, sl A_used used c_used]) (v := (fun x_ => match x_ with | (b57, A58, c59, y60, A61, c62, y63, A64, c65, y66) => .tuple #[vP b57 0, vI 0])) (I := (fun x_ => match x_ with | (b57, A58, c59, y60, A61, c62, y63, A64, c65, y66) => (RepL (Rep.int .i64) F W x7 y60) ∧ (RepL (Rep.int .u64) F W x8 y63) ∧ (RepL (Rep.int .u64) F W x9 y66))) (M' := (fun x_ => match x_ with | (b57, A58, c59, y60, A61, c62, y63, A64, c65, y66) => Mem w0 (.blk b57 [sl A58 x7 c59, sl A61 x8 c62, sl A64 x9 c65] 127 :: ow A58 x7 c59 3 1 y60 :: ow A61 x8 c62 52 1 y63 :: ow A64 x9 c65 52 1 y66 :: Fz F W :: cs))) ⟨by kernel_rfl⟩ (fun w_ hM hS => (slots_Of_ok w0 w_ (cs) F W A_gens c_gens gens A_used c_used used hM h_gens h_used _ hv4).mono (by intro e w' hq_; obtain ⟨b57, A58, c59, y60, A61, c62, y63, A64, c65, y66, ⟨h67, h68, h69⟩, rfl, h'⟩ := (pun3_at (psel_r hq_)); have h' : Mem w0 (.blk b57 [sl A58 x7 c59, sl A61 x8 c62, sl A64 x9 c65] 127 :: ow A58 x7 c59 3 1 y60 :: ow A61 x8 c62 52 1 y63 :: ow A64 x9 c65 52 1 y66 :: Fz F W :: cs) w' := h'; exact ⟨(b57, A58, c59, y60, A61, c62, y63, A64, c65, y66), ⟨h67, h68, h69⟩, rfl, h', trivial⟩)) ?_
   rintro ⟨b57, A58, c59, y60, A61, c62, y63, A64, c65, y66⟩ ⟨h67, h68, h69⟩
   refine oQ [oF 3, oF 4, oF 5, oF 6, oF 7] [(8, vI 0), (7, vP b57 0), (0, sl A_gens gens c_gens), (1, sl A_used used c_used), (2, sl A_l l c_l)] (by kernel_rfl) ?_
   refine ops_nil (fin_then (st_seq (st_region [oF 0, oF 1, oF 2, oF 3, oF 4, oF 5, oF 6, oF 7] (by rfl) ?_)))
   refine oQ [oF 0, oF 1] [(27, sl A_used used c_used), (26, sl A_gens gens c_gens), (8, vI 0), (7, vP b57 0), (2, sl A_l l c_l)] (by kernel_rfl) ?_
   obtain ⟨r71, hv70, hp⟩ := obind hp
   rcases r71 with x72 | ⟨x73, x74⟩
   ·
    have hp := (sel_l hp)
    refine ops_callI (σ := Unit) (d := some 28) (f := 40) (args := #[sl A_gens gens c_gens, sl A_used used c_used]) (v := (fun _ => .tuple #[.pointer none, vI x72])) (I := (fun _ => True)) (M' := (fun _ => Mem w0 (.blk b57 [sl A58 x7 c59, sl A61 x8 c62, sl A64 x9 c65] 127 :: ow A58 x7 c59 3 1 y60 :: ow A61 x8 c62 52 1 y63 :: ow A64 x9 c65 52 1 y66 :: Fz F W :: cs))) ⟨by kernel_rfl⟩ (fun w_ hM hS => (tourref1_RoomOf_ok w0 w_ (.blk b57 [sl A58 x7 c59, sl A61 x8 c62, sl A64 x9 c65] 127 :: ow A58 x7 c59 3 1 y60 :: ow A61 x8 c62 52 1 y63 :: ow A64 x9 c65 52 1 y66 :: cs) F W A_gens c_gens gens A_used c_used used (hM.pick 5 [4, 0, 1, 2, 3] (by kernel_rfl) (by decide) rfl) h_gens h_used _ hv70).mono (by intro e w' hq_; obtain ⟨-, rfl, h'⟩ := (psel_l hq_); have h' : Mem w0 (.blk b57 [sl A58 x7 c59, sl A61 x8 c62, sl A64 x9 c65] 127 :: ow A58 x7 c59 3 1 y60 :: ow A61 x8 c62 52 1 y63 :: ow A64 x9 c65 52 1 y66 :: Fz F W :: cs) w' := (h'.pick 5 [1, 2, 3, 4, 0] (by kernel_rfl) (by decide) rfl); exact ⟨(), trivial, rfl, h', trivial⟩)) ?_
    rintro _ -
    refine oQ [oF 3, oF 4, oF 5, oF 6, oF 7] [(10, vI x72), (9, .pointer none), (8, vI 0), (7, vP b57 0), (2, sl A_l l c_l)] (by kernel_rfl) ?_
    refine ops_nil (fin_then (st_seq (st_seq (st_region [oF 0, oF 1, oF 2, oF 3, oF 4, oF 5, oF 6, oF 7, oF 8, oF 9] (by rfl) ?_))))
    refine oQ [oF 0, oF 1, oF 2, oF 3] [(34, .bool (!(0 == x72))), (9, .pointer none), (8, vI 0), (7, vP b57 0), (2, sl A_l l c_l)] (by kernel_rfl) ?_
    refine ops_bool (t := !(0 == x72)) (l1 := [(34, .bool true), (9, .pointer none), (8, vI 0), (7, vP b57 0), (2, sl A_l l c_l)]) (l2 := [(34, .bool false), (9, .pointer none), (8, vI 0), (7, vP b57 0), (2, sl A_l l c_l)]) (fun h => by rw [h]) (fun h => by rw [h]) (fun hc75 => ?_) (fun hc75 => ?_)
    ·
     have hp := cnd_t hc75 hp
     refine oQ [oF 4, oF 5, oF 6, oF 7, oF 8, oF 9] [(40, .bool true), (9, .pointer none), (8, vI 0), (7, vP b57 0), (2, sl A_l l c_l)] (by kernel_rfl) ?_
     refine ops_nil (fin_then (st_true rfl (st_seq (st_region [oF 0] (by rfl) ?_))))
     refine oQ [oF 0] [(6, .bool false)] (by kernel_rfl) ?_
     refine ops_nil (fin_then (st_ret (fin_ret_then ?_)))
     have hq_ := Option.some.inj hp
     have hr0_ := hq_
     subst hr0_
     refine fin_ret [.tmp 6] [.bool false] rfl rfl (fun w_ hM => (.tmp rfl .nil)) (fun w_ hM => ?_)
     exact ⟨trivial, rfl, hM.pick 5 [4] (by kernel_rfl) (by decide) rfl⟩
    ·
     have hp := cnd_f hc75 hp
     refine oQ [oF 4, oF 5, oF 6, oF 7, oF 8, oF 9] [(40, .bool (!(false == false))), (9, .pointer none), (8, vI 0), (7, vP b57 0), (2, sl A_l l c_l)] (by kernel_rfl) ?_
     refine ops_nil (fin_then ?_)
     refine st_if (b := !(false == false)) rfl (fun hc76 => ?_) (fun hc76 => ?_)
     ·
      have hp := cnd_t hc76 hp
      refine st_seq (st_region [oF 0] (by rfl) ?_)
      refine oQ [oF 0] [(6, .bool false)] (by kernel_rfl) ?_
      refine ops_nil (fin_then (st_ret (fin_ret_then ?_)))
      have hq_ := Option.some.inj hp
      have hr0_ := hq_
      subst hr0_
      refine fin_ret [.tmp 6] [.bool false] rfl rfl (fun w_ hM => (.tmp rfl .nil)) (fun w_ hM => ?_)
      exact ⟨trivial, rfl, hM.pick 5 [4] (by kernel_rfl) (by decide) rfl⟩
     ·
      have hp := cnd_f hc76 hp
      refine st_skip (fin_then (st_seq (st_seq (st_region [oF 0, oF 1] (by rfl) ?_))))
      refine oQ [oF 0, oF 1] [(42, .bool false), (9, .pointer none), (7, vP b57 0), (2, sl A_l l c_l)] (by kernel_rfl) ?_
      refine ops_nil (fin_then (st_false rfl (st_skip (fin_then ?_))))
      refine st_join1 (σ := Unit) (L := fun _ => []) (N := fun _ => Mem w0 (Fz F W :: cs)) (I := fun _ => (tourlaw1_SlotsPlays_j5 = some t9001)) ?_ ?_
      ·
       rintro _ hp
       unfold tourlaw1_SlotsPlays_j5 at hp
       refine st_seq (st_region [oF 0] (by rfl) ?_)
       refine oQ [oF 0] [(6, .bool true)] (by kernel_rfl) ?_
       refine ops_nil (fin_then (st_ret ?_))
       have hq_ := Option.some.inj hp
       have hr0_ := hq_
       subst hr0_
       refine fin_ret [.tmp 6] [.bool true] rfl rfl (fun w_ hM => (.tmp rfl .nil)) (fun w_ hM => ?_)
       exact ⟨trivial, rfl, hM⟩
      ·
       intro HJ5
       refine st_seq (st_seq (st_region [oF 0, oF 1, oF 2] (by rfl) ?_))
       refine oQ [oF 0, oF 1, oF 2] [(45, vI 0), (44, vI (l.length : Int)), (43, sl A_l l c_l), (9, .pointer none), (7, vP b57 0)] (by kernel_rfl) ?_
       refine ops_nil (fin_then (st_block ?_))
       obtain ⟨r6, hl6, hk6⟩ := obind hp
       refine st_loopP (σ := Unit) (ρ := (Bool ⊕ Unit)) (γ := Unit) hl6 () (fun s_ g_ => match s_, g_ with | _, _ => [(7, vP b57 0), (9, .pointer none), (43, sl A_l l c_l), (44, vI (l.length : Int)), (45, vI 0)]) (fun s_ g_ => match s_, g_ with | _, _ => Mem w0 (.blk b57 [sl A58 x7 c59, sl A61 x8 c62, sl A64 x9 c65] 127 :: ow A58 x7 c59 3 1 y60 :: ow A61 x8 c62 52 1 y63 :: ow A64 x9 c65 52 1 y66 :: Fz F W :: cs)) (fun s_ g_ => match s_, g_ with | _, _ => True) trivial (look_has ⟨rfl, rfl, rfl, rfl, rfl, trivial⟩) (fun w_ hM => hM) ?_
       rintro _ _ o6 - hs_ hd6
       have hp : (tourlaw1_SlotsPlays_l6 l x7 x8 x9) = some o6 := hs_
       clear hs_
       unfold tourlaw1_SlotsPlays_l6 at hp
       refine st_seq (st_region [oF 0] (by rfl) ?_)
       refine oQ [oF 0] [(46, .bool (decide (0 < (l.length : Int)))), (7, vP b57 0), (9, .pointer none), (43, sl A_l l c_l), (44, vI (l.length : Int)), (45, vI 0)] (by kernel_rfl) ?_
       refine ops_nil (fin_then (st_seq ?_))
       refine st_if (b := decide (0 < (l.length : Int))) rfl (fun hc77 => ?_) (fun hc77 => ?_)
       ·
        have hp := cnd_t hc77 hp
        refine st_skip (fin_then (st_seq (st_block (st_seq (st_region [oF 0, oF 1, oF 2, oF 3] (by rfl) ?_)))))
        obtain ⟨x78, hv79, hp⟩ := obind hp
        obtain ⟨m80, hm81, hx82⟩ := idx_some hv79
        have hl85 := (List.getElem?_eq_some_iff.1 hx82).1
        obtain ⟨ad86, vs83, hA87, hr84, hq88⟩ := RdS.el h_l hx82
        obtain rfl := dec_api_Ent hr84
        refine ops_val (op := (.indexAddr 40 (.tmp 43) (.tmp 45))) (d := some 47) (v := .pointer (some (ad86.add (m80 * 2)))) ⟨by kernel_rfl⟩ (run_indexA hA87 Try.underlying40 (z := 2) (by kernel_rfl) rfl rfl hm81 hl85) ?_
        refine ops_mem (d := some 48) (an := [.v (vI x78.N), .v (vI x78.Gen)]) (evs := [.load (ad86.add (m80 * 2)) (vI x78.N), .load ((ad86.add (m80 * 2)).add 1) (vI x78.Gen)]) (v := .agg #[vI x78.N, vI x78.Gen]) ⟨by kernel_rfl⟩ (fun w_ hM hS => ⟨w_, ⟨hM.elcell 4 rfl hq88 0 rfl, hM.elcell 4 rfl hq88 1 rfl, rfl⟩, hM, trivial⟩) ?_
        refine ops_newB (d := some 12) [vI 0, vI 0] 35 (fun b89 => ⟨by kernel_rfl⟩) (fun w_ hM hS => trivial) (fun b89 => ?_)
        refine ops_store (an := []) (evs := [sr b89 0 (vI x78.N), sr b89 1 (vI x78.Gen)]) ⟨by kernel_rfl⟩ (fun w_ hM hS => let ⟨w', he, h'⟩ := hM.evs_stores [vI x78.N, vI x78.Gen] 0 rfl 0 (Nat.le_of_ble_eq_true rfl); ⟨w', he, h', trivial⟩) ?_
        refine ops_nil (fin_then (st_seq (st_seq (st_region [oF 0, oF 1, oF 2] (by rfl) ?_))))
        refine oQ [oF 0] [(49, vP b89 0), (12, vP b89 0), (7, vP b57 0), (9, .pointer none), (43, sl A_l l c_l), (44, vI (l.length : Int)), (45, vI 0)] (by kernel_rfl) ?_
        refine ops_mem (d := some 50) (an := [.v (vI x78.N)]) (evs := [ld b89 0 (vI x78.N)]) (v := vI x78.N) ⟨by kernel_rfl⟩ (fun w_ hM hS => ⟨w_, ⟨hM.cell 0 rfl rfl, rfl⟩, hM, trivial⟩) ?_
        refine oQ [oF 2] [(51, .bool (x78.N == (-1))), (12, vP b89 0), (7, vP b57 0), (9, .pointer none), (43, sl A_l l c_l), (44, vI (l.length : Int)), (45, vI 0)] (by kernel_rfl) ?_
        refine ops_nil (fin_then ?_)
        refine st_if (b := (x78.N == (-1))) rfl (fun hc90 => ?_) (fun hc90 => ?_)
        ·
         have hp := cnd_t hc90 hp
         refine st_seq (st_region [oF 0, oF 1, oF 2, oF 3, oF 4, oF 5, oF 6, oF 7] (by rfl) ?_)
         refine oQ [oF 0] [(53, vP b57 0), (7, vP b57 0), (9, .pointer none), (43, sl A_l l c_l), (44, vI (l.length : Int)), (45, vI 0)] (by kernel_rfl) ?_
         obtain ⟨x91, x92, x93, x94, x95, x96, hv97, hp⟩ := obind6 hp
         refine ops_callI (σ := (Option Addr) × Nat × (List Value) × (Option Addr) × Nat × (List Value) × (Option Addr) × Nat × (List Value)) (d := some 54) (f := 41) (args := #[vP b57 0]) (v := (fun x_ => match x_ with | (A98, c99, y100, A101, c102, y103, A104, c105, y106) => .tuple #[.agg #[vI x91, vI x92], vI x93])) (I := (fun x_ => match x_ with | (A98, c99, y100, A101, c102, y103, A104, c105, y106) => (RepL (Rep.int .i64) F W x94 y100) ∧ (RepL (Rep.int .u64) F W x95 y103) ∧ (RepL (Rep.int .u64) F W x96 y106))) (M' := (fun x_ => match x_ with | (A98, c99, y100, A101, c102, y103, A104, c105, y106) => Mem w0 (ow A98 x94 c99 3 1 y100 :: ow A101 x95 c102 52 1 y103 :: ow A104 x96 c105 52 1 y106 :: .blk b89 [vI x78.N, vI x78.Gen] 35 :: .blk b57 [sl A98 x94 c99, sl A101 x95 c102, sl A104 x96 c105] 127 :: Fz F W :: cs))) ⟨by kernel_rfl⟩ (fun w_ hM hS => (slots_Slots_Take_ok w0 w_ (.blk b89 [vI x78.N, vI x78.Gen] 35 :: cs) F W b57 A58 c59 x7 y60 A61 c62 x8 y63 A64 c65 x9 y66 (hM.pick 6 [1, 2, 3, 4, 5, 0] (by kernel_rfl) (by decide) rfl) h67 h68 h69 x91 x92 x93 x94 x95 x96 hv97).mono (by rintro e w' ⟨A98, c99, y100, A101, c102, y103, A104, c105, y106, ⟨h107, h108, h109⟩, rfl, h'⟩; have h' : Mem w0 (ow A98 x94 c99 3 1 y100 :: ow A101 x95 c102 52 1 y103 :: ow A104 x96 c105 52 1 y106 :: .blk b89 [vI x78.N, vI x78.Gen] 35 :: .blk b57 [sl A98 x94 c99, sl A101 x95 c102, sl A104 x96 c105] 127 :: Fz F W :: cs) w' := (h'.pick 6 [1, 2, 3, 5, 0, 4] (by kernel_rfl) (by decide) rfl); exact ⟨(A98, c99, y100, A101, c102, y103, A104, c105, y106), ⟨h107, h108, h109⟩, rfl, h', trivial⟩)) ?_
         rintro ⟨A98, c99, y100, A101, c102, y103, A104, c105, y106⟩ ⟨h107, h108, h109⟩
         refine oQ [oF 2, oF 3, oF 4] [(56, vI x93), (55, .agg #[vI x91, vI x92]), (7, vP b57 0), (9, .pointer none), (43, sl A_l l c_l), (44, vI (l.length : Int)), (45, vI 0)] (by kernel_rfl) ?_
         refine ops_newB (d := some 13) [vI 0, vI 0] 35 (fun b110 => ⟨by kernel_rfl⟩) (fun w_ hM hS => trivial) (fun b110 => ?_)
         refine ops_store (an := []) (evs := [sr b110 0 (vI x91), sr b110 1 (vI x92)]) ⟨by kernel_rfl⟩ (fun w_ hM hS => let ⟨w', he, h'⟩ := hM.evs_stores [vI x91, vI x92] 0 rfl 0 (Nat.le_of_ble_eq_true rfl); ⟨w', he, h', trivial⟩) ?_
         refine oQ [oF 7] [(14, vI x93), (13, vP b110 0), (7, vP b57 0), (9, .pointer none), (43, sl A_l l c_l), (44, vI (l.length : Int)), (45, vI 0)] (by kernel_rfl) ?_
         refine ops_nil (fin_then (st_seq (st_region [oF 0, oF 1, oF 2, oF 3, oF 4, oF 5, oF 6, oF 7] (by rfl) ?_)))
         refine oQ [oF 0] [(58, .pointer none), (14, vI x93), (13, vP b110 0), (7, vP b57 0), (9, .pointer none), (43, sl A_l l c_l), (44, vI (l.length : Int)), (45, vI 0)] (by kernel_rfl) ?_
         cases hp
        ·
         have hp := cnd_f hc90 hp
         refine st_seq ?_
         refine st_region_fast tourlaw1_SlotsPlays__t0 [oT 0, oT 1, oT 3, oT 4, oF 2, oF 5, oT 6, oT 7, oT 8, oT 9, oT 11, oT 12, oF 10, oF 13, oT 14, oT 15] (Mem w0 (.blk b89 [vI x78.N, vI x78.Gen] 35 :: Fz F W :: cs)) (by kernel_rfl) (by kernel_rfl) (by kernel_rfl) (by kernel_rfl) (by kernel_rfl) (fun _ d _ _ _ h => by cases d <;> exact h) (M' := Mem w0 (.blk b89 [vI x78.N, vI x78.Gen] 35 :: .blk b57 [sl A58 x7 c59, sl A61 x8 c62, sl A64 x9 c65] 127 :: ow A58 x7 c59 3 1 y60 :: ow A61 x8 c62 52 1 y63 :: ow A64 x9 c65 52 1 y66 :: Fz F W :: cs)) (fun w_ hM => ⟨hM.drew, hM.drew.sub (.cons_cons _ (.cons _ (.cons _ (.cons _ (.cons _ (.cons_cons _ (.refl _)))))))⟩) ?_
         refine oQ [oT 0] [(70, vP b57 0), (12, vP b89 0), (7, vP b57 0), (9, .pointer none), (43, sl A_l l c_l), (44, vI (l.length : Int)), (45, vI 0)] (by kernel_rfl) ?_
         refine ops_load (d := some 71) (an := [.v (vI x78.N), .v (vI x78.Gen)]) (evs := [ld b89 0 (vI x78.N), ld b89 1 (vI x78.Gen)]) (v := .agg #[vI x78.N, vI x78.Gen]) ⟨by kernel_rfl⟩ (fun w_ hM => ⟨hM.cell 0 rfl rfl, hM.cell 0 rfl rfl, rfl⟩) ?_
         refine oQ [oT 3] [(73, .pointer none), (71, .agg #[vI x78.N, vI x78.Gen]), (70, vP b57 0), (12, vP b89 0), (7, vP b57 0), (9, .pointer none), (43, sl A_l l c_l), (44, vI (l.length : Int)), (45, vI 0)] (by kernel_rfl) ?_
         refine ops_load (d := some 74) (an := [.v (vI x78.N), .v (vI x78.Gen)]) (evs := [ld b89 0 (vI x78.N), ld b89 1 (vI x78.Gen)]) (v := .agg #[vI x78.N, vI x78.Gen]) ⟨by kernel_rfl⟩ (fun w_ hM => ⟨hM.cell 0 rfl rfl, hM.cell 0 rfl rfl, rfl⟩) ?_
         obtain ⟨x111, hv112, hp⟩ := obind hp
         refine ops_callI (σ := (List Value) × (List Value) × (List Value)) (d := some 72) (f := 43) (args := #[vP b57 0, .agg #[vI x78.N, vI x78.Gen]]) (v := (fun x_ => match x_ with | (y113, y114, y115) => .bool x111)) (I := (fun x_ => match x_ with | (y113, y114, y115) => (RepL (Rep.int .i64) F W x7 y113) ∧ (RepL (Rep.int .u64) F W x8 y114) ∧ (RepL (Rep.int .u64) F W x9 y115))) (M' := (fun x_ => match x_ with | (y113, y114, y115) => Mem w0 (.blk b89 [vI x78.N, vI x78.Gen] 35 :: .blk b57 [sl A58 x7 c59, sl A61 x8 c62, sl A64 x9 c65] 127 :: ow A58 x7 c59 3 1 y113 :: ow A61 x8 c62 52 1 y114 :: ow A64 x9 c65 52 1 y115 :: Fz F W :: cs))) ⟨by kernel_rfl⟩ (fun w_ hM hS => (slots_Slots_Alive_ok w0 w_ (.blk b89 [vI x78.N, vI x78.Gen] 35 :: cs) F W b57 A58 c59 x7 y60 A61 c62 x8 y63 A64 c65 x9 y66 x78.N x78.Gen (hM.pick 6 [1, 2, 3, 4, 5, 0] (by kernel_rfl) (by decide) rfl) h67 h68 h69 x111 hv112).mono (by rintro e w' ⟨y113, y114, y115, ⟨h116, h117, h118⟩, rfl, h'⟩; have h' : Mem w0 (.blk b89 [vI x78.N, vI x78.Gen] 35 :: .blk b57 [sl A58 x7 c59, sl A61 x8 c62, sl A64 x9 c65] 127 :: ow A58 x7 c59 3 1 y113 :: ow A61 x8 c62 52 1 y114 :: ow A64 x9 c65 52 1 y115 :: Fz F W :: cs) w' := (h'.pick 6 [5, 0, 1, 2, 3, 4] (by kernel_rfl) (by decide) rfl); exact ⟨(y113, y114, y115), ⟨h116, h117, h118⟩, rfl, h', (by exact h'.sub (.cons_cons _ (.cons _ (.cons _ (.cons _ (.cons _ (.cons_cons _ (.refl _))))))))⟩)) ?_
         rintro ⟨y113, y114, y115⟩ ⟨h116, h117, h118⟩
         obtain ⟨_, hv119, hp⟩ := obind hp
         refine ops_callI (σ := Unit) (d := some 75) (f := 44) (args := #[.pointer none, .agg #[vI x78.N, vI x78.Gen]]) (v := (fun _ => .bool false)) (I := (fun _ => True)) (M' := (fun _ => Mem w0 (.blk b89 [vI x78.N, vI x78.Gen] 35 :: .blk b57 [sl A58 x7 c59, sl A61 x8 c62, sl A64 x9 c65] 127 :: ow A58 x7 c59 3 1 y113 :: ow A61 x8 c62 52 1 y114 :: ow A64 x9 c65 52 1 y115 :: Fz F W :: cs))) ⟨by kernel_rfl⟩ (fun w_ hM hS => (tourref1_Room_Alive_ok w0 w_ (.blk b89 [vI x78.N, vI x78.Gen] 35 :: .blk b57 [sl A58 x7 c59, sl A61 x8 c62, sl A64 x9 c65] 127 :: ow A58 x7 c59 3 1 y113 :: ow A61 x8 c62 52 1 y114 :: ow A64 x9 c65 52 1 y115 :: cs) F W x78.N x78.Gen (hM.pick 6 [5, 0, 1, 2, 3, 4] (by kernel_rfl) (by decide) rfl)   hv119).mono (by rintro e w' ⟨-, rfl, h'⟩; have h' : Mem w0 (.blk b89 [vI x78.N, vI x78.Gen] 35 :: .blk b57 [sl A58 x7 c59, sl A61 x8 c62, sl A64 x9 c65] 127 :: ow A58 x7 c59 3 1 y113 :: ow A61 x8 c62 52 1 y114 :: ow A64 x9 c65 52 1 y115 :: Fz F W :: cs) w' := (h'.pick 6 [1, 2, 3, 4, 5, 0] (by kernel_rfl) (by decide) rfl); exact ⟨(), trivial, rfl, h', (by exact h'.sub (.cons_cons _ (.cons _ (.cons _ (.cons _ (.cons _ (.cons_cons _ (.refl _))))))))⟩)) ?_
         rintro _ -
         refine oQ [oT 6, oT 7] [(77, .bool (!(x111 == false))), (12, vP b89 0), (7, vP b57 0), (9, .pointer none), (43, sl A_l l c_l), (44, vI (l.length : Int)), (45, vI 0)] (by kernel_rfl) ?_
         refine ops_bool (t := !(x111 == false)) (l1 := [(77, .bool true), (12, vP b89 0), (7, vP b57 0), (9, .pointer none), (43, sl A_l l c_l), (44, vI (l.length : Int)), (45, vI 0)]) (l2 := [(77, .bool false), (12, vP b89 0), (7, vP b57 0), (9, .pointer none), (43, sl A_l l c_l), (44, vI (l.length : Int)), (45, vI 0)]) (fun h => by rw [h]) (fun h => by rw [h]) (fun hc120 => ?_) (fun hc120 => ?_)
         ·
          have hp := cnd_t hc120 hp
          refine oQ [oT 8, oT 9, oT 11, oT 12, oF 10, oF 13, oT 14, oT 15] [(85, .bool true), (7, vP b57 0), (9, .pointer none), (43, sl A_l l c_l), (44, vI (l.length : Int)), (45, vI 0)] (by kernel_rfl) ?_
          refine ops_nil (fin_then (st_true rfl (st_seq (st_region [oF 0] (by rfl) ?_))))
          refine oQ [oF 0] [(6, .bool false)] (by kernel_rfl) ?_
          refine ops_nil (fin_then (st_ret (fin_ret_then (fin_ret_block (fin_ret_then (fin_ret_then (fin_ret_block (fin_ret_then ?_))))))))
          obtain hq_ := Option.some.inj hp
          subst hq_
          obtain hq_ := hd6 _ rfl
          subst hq_
          have hp : some false = some t9001 := hk6
          have hq_ := Option.some.inj hp
          have hr0_ := hq_
          subst hr0_
          refine fin_ret [.tmp 6] [.bool false] rfl rfl (fun w_ hM => (.tmp rfl .nil)) (fun w_ hM => ?_)
          exact ⟨trivial, rfl, hM.pick 6 [5] (by kernel_rfl) (by decide) rfl⟩
         ·
          have hp := cnd_f hc120 hp
          refine oQ [oT 8] [(78, vP b57 0), (77, .bool false), (12, vP b89 0), (7, vP b57 0), (9, .pointer none), (43, sl A_l l c_l), (44, vI (l.length : Int)), (45, vI 0)] (by kernel_rfl) ?_
          refine ops_load (d := some 79) (an := [.v (vI x78.N), .v (vI x78.Gen)]) (evs := [ld b89 0 (vI x78.N), ld b89 1 (vI x78.Gen)]) (v := .agg #[vI x78.N, vI x78.Gen]) ⟨by kernel_rfl⟩ (fun w_ hM => ⟨hM.cell 0 rfl rfl, hM.cell 0 rfl rfl, rfl⟩) ?_
          refine oQ [oT 11] [(81, .pointer none), (79, .agg #[vI x78.N, vI x78.Gen]), (78, vP b57 0), (77, .bool false), (12, vP b89 0), (7, vP b57 0), (9, .pointer none), (43, sl A_l l c_l), (44, vI (l.length : Int)), (45, vI 0)] (by kernel_rfl) ?_
          refine ops_load (d := some 82) (an := [.v (vI x78.N), .v (vI x78.Gen)]) (evs := [ld b89 0 (vI x78.N), ld b89 1 (vI x78.Gen)]) (v := .agg #[vI x78.N, vI x78.Gen]) ⟨by kernel_rfl⟩ (fun w_ hM => ⟨hM.cell 0 rfl rfl, hM.cell 0 rfl rfl, rfl⟩) ?_
          obtain ⟨x121, x122, x123, x124, hv125, hp⟩ := obind4 hp
          refine ops_callI (σ := (List Value) × (Option Addr) × Nat × (List Value) × (Option Addr) × Nat × (List Value)) (d := some 80) (f := 45) (args := #[vP b57 0, .agg #[vI x78.N, vI x78.Gen]]) (v := (fun x_ => match x_ with | (y126, A127, c128, y129, A130, c131, y132) => vI x121)) (I := (fun x_ => match x_ with | (y126, A127, c128, y129, A130, c131, y132) => (RepL (Rep.int .i64) F W x122 y126) ∧ (RepL (Rep.int .u64) F W x123 y129) ∧ (RepL (Rep.int .u64) F W x124 y132))) (M' := (fun x_ => match x_ with | (y126, A127, c128, y129, A130, c131, y132) => Mem w0 (ow A127 x123 c128 52 1 y129 :: ow A130 x124 c131 52 1 y132 :: .blk b89 [vI x78.N, vI x78.Gen] 35 :: .blk b57 [sl A58 x122 c59, sl A127 x123 c128, sl A130 x124 c131] 127 :: ow A58 x122 c59 3 1 y126 :: Fz F W :: cs))) ⟨by kernel_rfl⟩ (fun w_ hM hS => (slots_Slots_Free_ok w0 w_ (.blk b89 [vI x78.N, vI x78.Gen] 35 :: cs) F W b57 A58 c59 x7 y113 A61 c62 x8 y114 A64 c65 x9 y115 x78.N x78.Gen (hM.pick 6 [1, 2, 3, 4, 5, 0] (by kernel_rfl) (by decide) rfl) h116 h117 h118 x121 x122 x123 x124 hv125).mono (by rintro e w' ⟨y126, A127, c128, y129, A130, c131, y132, ⟨h133, h134, h135⟩, rfl, h'⟩; have h' : Mem w0 (ow A127 x123 c128 52 1 y129 :: ow A130 x124 c131 52 1 y132 :: .blk b89 [vI x78.N, vI x78.Gen] 35 :: .blk b57 [sl A58 x122 c59, sl A127 x123 c128, sl A130 x124 c131] 127 :: ow A58 x122 c59 3 1 y126 :: Fz F W :: cs) w' := (h'.pick 6 [2, 3, 5, 0, 1, 4] (by kernel_rfl) (by decide) rfl); exact ⟨(y126, A127, c128, y129, A130, c131, y132), ⟨h133, h134, h135⟩, rfl, h', (by exact h'.sub (.cons _ (.cons _ (.cons_cons _ (.cons _ (.cons _ (.cons_cons _ (.refl _))))))))⟩)) ?_
          rintro ⟨y126, A127, c128, y129, A130, c131, y132⟩ ⟨h133, h134, h135⟩
          obtain ⟨_, hv136, hp⟩ := obind hp
          refine ops_callI (σ := Unit) (d := some 83) (f := 46) (args := #[.pointer none, .agg #[vI x78.N, vI x78.Gen]]) (v := (fun _ => vI 4)) (I := (fun _ => True)) (M' := (fun _ => Mem w0 (ow A127 x123 c128 52 1 y129 :: ow A130 x124 c131 52 1 y132 :: .blk b89 [vI x78.N, vI x78.Gen] 35 :: .blk b57 [sl A58 x122 c59, sl A127 x123 c128, sl A130 x124 c131] 127 :: ow A58 x122 c59 3 1 y126 :: Fz F W :: cs))) ⟨by kernel_rfl⟩ (fun w_ hM hS => (tourref1_Room_Free_ok w0 w_ (ow A127 x123 c128 52 1 y129 :: ow A130 x124 c131 52 1 y132 :: .blk b89 [vI x78.N, vI x78.Gen] 35 :: .blk b57 [sl A58 x122 c59, sl A127 x123 c128, sl A130 x124 c131] 127 :: ow A58 x122 c59 3 1 y126 :: cs) F W x78.N x78.Gen (hM.pick 6 [5, 0, 1, 2, 3, 4] (by kernel_rfl) (by decide) rfl)   hv136).mono (by rintro e w' ⟨-, rfl, h'⟩; have h' : Mem w0 (ow A127 x123 c128 52 1 y129 :: ow A130 x124 c131 52 1 y132 :: .blk b89 [vI x78.N, vI x78.Gen] 35 :: .blk b57 [sl A58 x122 c59, sl A127 x123 c128, sl A130 x124 c131] 127 :: ow A58 x122 c59 3 1 y126 :: Fz F W :: cs) w' := (h'.pick 6 [1, 2, 3, 4, 5, 0] (by kernel_rfl) (by decide) rfl); exact ⟨(), trivial, rfl, h', (by exact h'.sub (.cons _ (.cons _ (.cons_cons _ (.cons _ (.cons _ (.cons_cons _ (.refl _))))))))⟩)) ?_
          rintro _ -
          refine oQ [oT 14, oT 15] [(85, .bool (!(x121 == 4))), (7, vP b57 0), (9, .pointer none), (43, sl A_l l c_l), (44, vI (l.length : Int)), (45, vI 0)] (by kernel_rfl) ?_
          refine ops_nil (fin_then ?_)
          refine st_if (b := !(x121 == 4)) rfl (fun hc137 => ?_) (fun hc137 => ?_)
          ·
           have hp := cnd_t hc137 hp
           refine st_seq (st_region [oF 0] (by rfl) ?_)
           refine oQ [oF 0] [(6, .bool false)] (by kernel_rfl) ?_
           refine ops_nil (fin_then (st_ret (fin_ret_then (fin_ret_block (fin_ret_then (fin_ret_then (fin_ret_block (fin_ret_then ?_))))))))
           obtain hq_ := Option.some.inj hp
           subst hq_
           obtain hq_ := hd6 _ rfl
           subst hq_
           have hp : some false = some t9001 := hk6
           have hq_ := Option.some.inj hp
           have hr0_ := hq_
           subst hr0_
           refine fin_ret [.tmp 6] [.bool false] rfl rfl (fun w_ hM => (.tmp rfl .nil)) (fun w_ hM => ?_)
           exact ⟨trivial, rfl, hM.pick 6 [5] (by kernel_rfl) (by decide) rfl⟩
          ·
           have hp := cnd_f hc137 hp
           refine st_skip (fin_then (st_seq ?_))
           refine st_region_fast tourlaw1_SlotsPlays__t1 [oT 0, oT 2, oF 1, oF 3, oF 4, oT 5, oT 6, oT 7, oT 9, oT 10, oT 11, oT 12, oF 8, oF 13, oT 14, oT 15] (Mem w0 (.blk b89 [vI x78.N, vI x78.Gen] 35 :: Fz F W :: cs)) (by kernel_rfl) (by kernel_rfl) (by kernel_rfl) (by kernel_rfl) (by kernel_rfl) (fun _ d _ _ _ h => by cases d <;> exact h) (M' := Mem w0 (ow A127 x123 c128 52 1 y129 :: ow A130 x124 c131 52 1 y132 :: .blk b89 [vI x78.N, vI x78.Gen] 35 :: .blk b57 [sl A58 x122 c59, sl A127 x123 c128, sl A130 x124 c131] 127 :: ow A58 x122 c59 3 1 y126 :: Fz F W :: cs)) (fun w_ hM => ⟨hM.drew, hM.drew.sub (.cons _ (.cons _ (.cons_cons _ (.cons _ (.cons _ (.cons_cons _ (.refl _)))))))⟩) ?_
           refine oQ [oT 0, oT 2] [(88, .pointer none), (86, vP b57 0), (7, vP b57 0), (9, .pointer none), (43, sl A_l l c_l), (44, vI (l.length : Int)), (45, vI 0)] (by kernel_rfl) ?_
           obtain ⟨x138, hv139, hp⟩ := obind hp
           refine ops_callI (σ := (Option Addr) × Nat × (List Value) × (List Value) × (List Value) × (List Value)) (d := some 87) (f := 47) (args := #[vP b57 0]) (v := (fun x_ => match x_ with | (A140, c141, y142, y143, y144, y145) => sl A140 x138 c141)) (I := (fun x_ => match x_ with | (A140, c141, y142, y143, y144, y145) => (RepL R_api_Ent F W x138 y142) ∧ (RepL (Rep.int .i64) F W x122 y143) ∧ (RepL (Rep.int .u64) F W x123 y144) ∧ (RepL (Rep.int .u64) F W x124 y145))) (M' := (fun x_ => match x_ with | (A140, c141, y142, y143, y144, y145) => Mem w0 (ow A140 x138 c141 35 2 y142 :: ow A127 x123 c128 52 1 y144 :: ow A130 x124 c131 52 1 y145 :: .blk b89 [vI x78.N, vI x78.Gen] 35 :: .blk b57 [sl A58 x122 c59, sl A127 x123 c128, sl A130 x124 c131] 127 :: ow A58 x122 c59 3 1 y143 :: Fz F W :: cs))) ⟨by kernel_rfl⟩ (fun w_ hM hS => (slots_Slots_List_ok w0 w_ (.blk b89 [vI x78.N, vI x78.Gen] 35 :: cs) F W b57 A58 c59 x122 y126 A127 c128 x123 y129 A130 c131 x124 y132 (hM.pick 6 [3, 4, 0, 1, 5, 2] (by kernel_rfl) (by decide) rfl) h133 h134 h135 x138 hv139).mono (by rintro e w' ⟨A140, c141, y142, y143, y144, y145, ⟨h146, h147, h148, h149⟩, rfl, h'⟩; have h' : Mem w0 (ow A140 x138 c141 35 2 y142 :: ow A127 x123 c128 52 1 y144 :: ow A130 x124 c131 52 1 y145 :: .blk b89 [vI x78.N, vI x78.Gen] 35 :: .blk b57 [sl A58 x122 c59, sl A127 x123 c128, sl A130 x124 c131] 127 :: ow A58 x122 c59 3 1 y143 :: Fz F W :: cs) w' := (h'.pick 7 [0, 3, 4, 6, 1, 2, 5] (by kernel_rfl) (by decide) rfl); exact ⟨(A140, c141, y142, y143, y144, y145), ⟨h146, h147, h148, h149⟩, rfl, h', (by exact h'.sub (.cons _ (.cons _ (.cons _ (.cons_cons _ (.cons _ (.cons _ (.cons_cons _ (.refl _)))))))))⟩)) ?_
           rintro ⟨A140, c141, y142, y143, y144, y145⟩ ⟨h146, h147, h148, h149⟩
           cases hp
       ·
        have hp := cnd_f hc77 hp
        refine st_exit (fin_exit_then (fin_exit_then (fin_exit ?_)))
        obtain hq_ := Option.some.inj hp
        subst hq_
        obtain hq_ := hd6 _ rfl
        subst hq_
        have hp : tourlaw1_SlotsPlays_j5 = some t9001 := hk6
        exact fin_join HJ5 () hp (look_has trivial) (fun w_ hM => hM.pick 5 [4] (by kernel_rfl) (by decide) rfl)
   ·
    have hp := (un2_at (sel_r hp))
    refine ops_callI (σ := Nat × (Option Addr) × Nat × (List Value) × (Option Addr) × Nat × (List Value)) (d := some 28) (f := 40) (args := #[sl A_gens gens c_gens, sl A_used used c_used]) (v := (fun x_ => match x_ with | (b150, A151, c152, y153, A154, c155, y156) => .tuple #[vP b150 0, vI 0])) (I := (fun x_ => match x_ with | (b150, A151, c152, y153, A154, c155, y156) => (RepL (Rep.int .i64) F W x73 y153) ∧ (RepL Rep.bool F W x74 y156))) (M' := (fun x_ => match x_ with | (b150, A151, c152, y153, A154, c155, y156) => Mem w0 (.blk b150 [sl A151 x73 c152, sl A154 x74 c155] 86 :: ow A151 x73 c152 3 1 y153 :: ow A154 x74 c155 4 1 y156 :: .blk b57 [sl A58 x7 c59, sl A61 x8 c62, sl A64 x9 c65] 127 :: ow A58 x7 c59 3 1 y60 :: ow A61 x8 c62 52 1 y63 :: ow A64 x9 c65 52 1 y66 :: Fz F W :: cs))) ⟨by kernel_rfl⟩ (fun w_ hM hS => (tourref1_RoomOf_ok w0 w_ (.blk b57 [sl A58 x7 c59, sl A61 x8 c62, sl A64 x9 c65] 127 :: ow A58 x7 c59 3 1 y60 :: ow A61 x8 c62 52 1 y63 :: ow A64 x9 c65 52 1 y66 :: cs) F W A_gens c_gens gens A_used c_used used (hM.pick 5 [4, 0, 1, 2, 3] (by kernel_rfl) (by decide) rfl) h_gens h_used _ hv70).mono (by intro e w' hq_; obtain ⟨b150, A151, c152, y153, A154, c155, y156, ⟨h157, h158⟩, rfl, h'⟩ := (pun2_at (psel_r hq_)); have h' : Mem w0 (.blk b150 [sl A151 x73 c152, sl A154 x74 c155] 86 :: ow A151 x73 c152 3 1 y153 :: ow A154 x74 c155 4 1 y156 :: .blk b57 [sl A58 x7 c59, sl A61 x8 c62, sl A64 x9 c65] 127 :: ow A58 x7 c59 3 1 y60 :: ow A61 x8 c62 52 1 y63 :: ow A64 x9 c65 52 1 y66 :: Fz F W :: cs) w' := (h'.pick 8 [0, 1, 2, 4, 5, 6, 7, 3] (by kernel_rfl) (by decide) rfl); exact ⟨(b150, A151, c152, y153, A154, c155, y156), ⟨h157, h158⟩, rfl, h', trivial⟩)) ?_
    rintro ⟨b150, A151, c152, y153, A154, c155, y156⟩ ⟨h157, h158⟩
    refine oQ [oF 3, oF 4, oF 5, oF 6, oF 7] [(10, vI 0), (9, vP b150 0), (8, vI 0), (7, vP b57 0), (2, sl A_l l c_l)] (by kernel_rfl) ?_
    refine ops_nil (fin_then (st_seq (st_seq (st_region [oF 0, oF 1, oF 2, oF 3, oF 4, oF 5, oF 6, oF 7, oF 8, oF 9] (by rfl) ?_))))
    refine oQ [oF 0, oF 1, oF 2, oF 3, oF 4, oF 5, oF 6, oF 7, oF 8, oF 9] [(40, .bool (!(false == false))), (9, vP b150 0), (8, vI 0), (7, vP b57 0), (2, sl A_l l c_l)] (by kernel_rfl) ?_
    refine ops_nil (fin_then ?_)
    refine st_if (b := !(false == false)) rfl (fun hc159 => ?_) (fun hc159 => ?_)
    ·
     have hp := cnd_t hc159 hp
     refine st_seq (st_region [oF 0] (by rfl) ?_)
     refine oQ [oF 0] [(6, .bool false)] (by kernel_rfl) ?_
     refine ops_nil (fin_then (st_ret (fin_ret_then ?_)))
     have hq_ := Option.some.inj hp
     have hr0_ := hq_
     subst hr0_
     refine fin_ret [.tmp 6] [.bool false] rfl rfl (fun w_ hM => (.tmp rfl .nil)) (fun w_ hM => ?_)
     exact ⟨trivial, rfl, hM.pick 8 [7] (by kernel_rfl) (by decide) rfl⟩
    ·
     have hp := cnd_f hc159 hp
     refine st_skip (fin_then (st_seq (st_seq (st_region [oF 0, oF 1] (by rfl) ?_))))
     refine oQ [oF 0, oF 1] [(42, .bool false), (9, vP b150 0), (7, vP b57 0), (2, sl A_l l c_l)] (by kernel_rfl) ?_
     refine ops_nil (fin_then (st_false rfl (st_skip (fin_then ?_))))
     refine st_join1 (σ := Unit) (L := fun _ => []) (N := fun _ => Mem w0 (Fz F W :: cs)) (I := fun _ => (tourlaw1_SlotsPlays_j7 = some t9001)) ?_ ?_
     ·
      rintro _ hp
      unfold tourlaw1_SlotsPlays_j7 at hp
      refine st_seq (st_region [oF 0] (by rfl) ?_)
      refine oQ [oF 0] [(6, .bool true)] (by kernel_rfl) ?_
      refine ops_nil (fin_then (st_ret ?_))
      have hq_ := Option.some.inj hp
      have hr0_ := hq_
      subst hr0_
      refine fin_ret [.tmp 6] [.bool true] rfl rfl (fun w_ hM => (.tmp rfl .nil)) (fun w_ hM => ?_)
      exact ⟨trivial, rfl, hM⟩
     ·
      intro HJ7
      refine st_seq (st_seq (st_region [oF 0, oF 1, oF 2] (by rfl) ?_))
      refine oQ [oF 0, oF 1, oF 2] [(45, vI 0), (44, vI (l.length : Int)), (43, sl A_l l c_l), (9, vP b150 0), (7, vP b57 0)] (by kernel_rfl) ?_
      refine ops_nil (fin_then (st_block ?_))
      obtain ⟨r8, hl8, hk8⟩ := obind hp
      refine st_loopP (σ := (List Int) × (List Int) × (List Int) × (List Int) × (List Bool) × Int) (ρ := (Bool ⊕ Unit)) (γ := (Option Addr) × Nat × (List Value) × (Option Addr) × Nat × (List Value) × (Option Addr) × Nat × (List Value) × (Option Addr) × Nat × (List Value) × (Option Addr) × Nat × (List Value)) hl8 (A58, c59, y60, A61, c62, y63, A64, c65, y66, A151, c152, y153, A154, c155, y156) (fun s_ g_ => match s_, g_ with | (l162, l167, l172, l177, l182, i185), (A160, c161, y163, A165, c166, y168, A170, c171, y173, A175, c176, y178, A180, c181, y183) => [(7, vP b57 0), (9, vP b150 0), (43, sl A_l l c_l), (44, vI (l.length : Int)), (45, vI i185)]) (fun s_ g_ => match s_, g_ with | (l162, l167, l172, l177, l182, i185), (A160, c161, y163, A165, c166, y168, A170, c171, y173, A175, c176, y178, A180, c181, y183) => Mem w0 (.blk b57 [sl A160 l162 c161, sl A165 l167 c166, sl A170 l172 c171] 127 :: ow A160 l162 c161 3 1 y163 :: ow A165 l167 c166 52 1 y168 :: ow A170 l172 c171 52 1 y173 :: .blk b150 [sl A175 l177 c176, sl A180 l182 c181] 86 :: ow A175 l177 c176 3 1 y178 :: ow A180 l182 c181 4 1 y183 :: Fz F W :: cs)) (fun s_ g_ => match s_, g_ with | (l162, l167, l172, l177, l182, i185), (A160, c161, y163, A165, c166, y168, A170, c171, y173, A175, c176, y178, A180, c181, y183) => (RepL (Rep.int .i64) F W l162 y163) ∧ (RepL (Rep.int .u64) F W l167 y168) ∧ (RepL (Rep.int .u64) F W l172 y173) ∧ (RepL (Rep.int .i64) F W l177 y178) ∧ (RepL Rep.bool F W l182 y183)) ⟨h67, h68, h69, h157, h158⟩ (look_has ⟨rfl, rfl, rfl, rfl, rfl, trivial⟩) (fun w_ hM => hM.pick 8 [3, 4, 5, 6, 0, 1, 2, 7] (by kernel_rfl) (by decide) rfl) ?_
      rintro ⟨l162, l167, l172, l177, l182, i185⟩ ⟨A160, c161, y163, A165, c166, y168, A170, c171, y173, A175, c176, y178, A180, c181, y183⟩ o8 ⟨h164, h169, h174, h179, h184⟩ hs_ hd8
      have hp : (tourlaw1_SlotsPlays_l8 l) l162 l167 l172 l177 l182 i185 = some o8 := hs_
      clear hs_
      unfold tourlaw1_SlotsPlays_l8 at hp
      refine st_seq (st_region [oF 0] (by rfl) ?_)
      refine oQ [oF 0] [(46, .bool (decide (i185 < (l.length : Int)))), (7, vP b57 0), (9, vP b150 0), (43, sl A_l l c_l), (44, vI (l.length : Int)), (45, vI i185)] (by kernel_rfl) ?_
      refine ops_nil (fin_then (st_seq ?_))
      refine st_if (b := decide (i185 < (l.length : Int))) rfl (fun hc186 => ?_) (fun hc186 => ?_)
      ·
       have hp := cnd_t hc186 hp
       refine st_skip (fin_then (st_seq (st_block (st_seq (st_region [oF 0, oF 1, oF 2, oF 3] (by rfl) ?_)))))
       obtain ⟨x187, hv188, hp⟩ := obind hp
       obtain ⟨m189, hm190, hx191⟩ := idx_some hv188
       have hl194 := (List.getElem?_eq_some_iff.1 hx191).1
       obtain ⟨ad195, vs192, hA196, hr193, hq197⟩ := RdS.el h_l hx191
       obtain rfl := dec_api_Ent hr193
       refine ops_val (op := (.indexAddr 40 (.tmp 43) (.tmp 45))) (d := some 47) (v := .pointer (some (ad195.add (m189 * 2)))) ⟨by kernel_rfl⟩ (run_indexA hA196 Try.underlying40 (z := 2) (by kernel_rfl) rfl rfl hm190 hl194) ?_
       refine ops_mem (d := some 48) (an := [.v (vI x187.N), .v (vI x187.Gen)]) (evs := [.load (ad195.add (m189 * 2)) (vI x187.N), .load ((ad195.add (m189 * 2)).add 1) (vI x187.Gen)]) (v := .agg #[vI x187.N, vI x187.Gen]) ⟨by kernel_rfl⟩ (fun w_ hM hS => ⟨w_, ⟨hM.elcell 7 rfl hq197 0 rfl, hM.elcell 7 rfl hq197 1 rfl, rfl⟩, hM, trivial⟩) ?_
       refine ops_newB (d := some 12) [vI 0, vI 0] 35 (fun b198 => ⟨by kernel_rfl⟩) (fun w_ hM hS => trivial) (fun b198 => ?_)
       refine ops_store (an := []) (evs := [sr b198 0 (vI x187.N), sr b198 1 (vI x187.Gen)]) ⟨by kernel_rfl⟩ (fun w_ hM hS => let ⟨w', he, h'⟩ := hM.evs_stores [vI x187.N, vI x187.Gen] 0 rfl 0 (Nat.le_of_ble_eq_true rfl); ⟨w', he, h', trivial⟩) ?_
       refine ops_nil (fin_then ?_)
       refine st_join1 (σ := (Option Addr) × Nat × (List Int) × (List Value) × (Option Addr) × Nat × (List Int) × (List Value) × (Option Addr) × Nat × (List Int) × (List Value) × (Option Addr) × Nat × (List Int) × (List Value) × (Option Addr) × Nat × (List Bool) × (List Value)) (L := fun x_ => match x_ with | (A199, c200, l201, y202, A204, c205, l206, y207, A209, c210, l211, y212, A214, c215, l216, y217, A219, c220, l221, y222) => [(7, vP b57 0), (9, vP b150 0), (43, sl A_l l c_l), (44, vI (l.length : Int)), (45, vI i185)]) (N := fun x_ => match x_ with | (A199, c200, l201, y202, A204, c205, l206, y207, A209, c210, l211, y212, A214, c215, l216, y217, A219, c220, l221, y222) => Mem w0 (.blk b57 [sl A199 l201 c200, sl A204 l206 c205, sl A209 l211 c210] 127 :: ow A199 l201 c200 3 1 y202 :: ow A204 l206 c205 52 1 y207 :: ow A209 l211 c210 52 1 y212 :: .blk b150 [sl A214 l216 c215, sl A219 l221 c220] 86 :: ow A214 l216 c215 3 1 y217 :: ow A219 l221 c220 4 1 y222 :: Fz F W :: cs)) (I := fun x_ => match x_ with | (A199, c200, l201, y202, A204, c205, l206, y207, A209, c210, l211, y212, A214, c215, l216, y217, A219, c220, l221, y222) => ((tourlaw1_SlotsPlays_j9 i185) l201 l206 l211 l216 l221 = some o8) ∧ (RepL (Rep.int .i64) F W l201 y202) ∧ (RepL (Rep.int .u64) F W l206 y207) ∧ (RepL (Rep.int .u64) F W l211 y212) ∧ (RepL (Rep.int .i64) F W l216 y217) ∧ (RepL Rep.bool F W l221 y222)) ?_ ?_
       ·
        rintro ⟨A199, c200, l201, y202, A204, c205, l206, y207, A209, c210, l211, y212, A214, c215, l216, y217, A219, c220, l221, y222⟩ ⟨hp, h203, h208, h213, h218, h223⟩
        unfold tourlaw1_SlotsPlays_j9 at hp
        refine st_join1 (σ := (List Value) × (List Value) × (List Value) × (List Value) × (List Value) × Bool) (L := fun x_ => match x_ with | (y224, y226, y228, y230, y232, t234) => [(7, vP b57 0), (9, vP b150 0), (43, sl A_l l c_l), (44, vI (l.length : Int)), (45, vI i185), (101, .bool t234)]) (N := fun x_ => match x_ with | (y224, y226, y228, y230, y232, t234) => Mem w0 (.blk b57 [sl A199 l201 c200, sl A204 l206 c205, sl A209 l211 c210] 127 :: ow A199 l201 c200 3 1 y224 :: ow A204 l206 c205 52 1 y226 :: ow A209 l211 c210 52 1 y228 :: .blk b150 [sl A214 l216 c215, sl A219 l221 c220] 86 :: ow A214 l216 c215 3 1 y230 :: ow A219 l221 c220 4 1 y232 :: Fz F W :: cs)) (I := fun x_ => match x_ with | (y224, y226, y228, y230, y232, t234) => ((tourlaw1_SlotsPlays_j10 l201 l206 l211 l216 l221 i185) t234 = some o8) ∧ (RepL (Rep.int .i64) F W l201 y224) ∧ (RepL (Rep.int .u64) F W l206 y226) ∧ (RepL (Rep.int .u64) F W l211 y228) ∧ (RepL (Rep.int .i64) F W l216 y230) ∧ (RepL Rep.bool F W l221 y232)) ?_ ?_
        ·
         rintro ⟨y224, y226, y228, y230, y232, t234⟩ ⟨hp, h225, h227, h229, h231, h233⟩
         unfold tourlaw1_SlotsPlays_j10 at hp
         refine st_if (b := t234) rfl (fun hc235 => ?_) (fun hc235 => ?_)
         ·
          have hp := cnd_t hc235 hp
          refine st_seq (st_region [oF 0] (by rfl) ?_)
          refine oQ [oF 0] [(6, .bool false)] (by kernel_rfl) ?_
          refine ops_nil (fin_then (st_ret (fin_ret_block (fin_ret_then (fin_ret_then (fin_ret_block (fin_ret_then ?_)))))))
          obtain hq_ := Option.some.inj hp
          subst hq_
          obtain hq_ := hd8 _ rfl
          subst hq_
          have hp : some false = some t9001 := hk8
          have hq_ := Option.some.inj hp
          have hr0_ := hq_
          subst hr0_
          refine fin_ret [.tmp 6] [.bool false] rfl rfl (fun w_ hM => (.tmp rfl .nil)) (fun w_ hM => ?_)
          exact ⟨trivial, rfl, hM.pick 8 [7] (by kernel_rfl) (by decide) rfl⟩
         ·
          have hp := cnd_f hc235 hp
          refine st_skip (fin_block (fin_then (st_region [oF 0, oF 1] (by rfl) ?_)))
          refine oQ [oF 0, oF 1] [(45, vI (IntKind.i64.wrap (i185 + 1))), (7, vP b57 0), (9, vP b150 0), (43, sl A_l l c_l), (44, vI (l.length : Int))] (by kernel_rfl) ?_
          refine ops_nil ?_
          exact fin_again (l201, l206, l211, l216, l221, IntKind.i64.wrap (i185 + 1)) (A199, c200, y224, A204, c205, y226, A209, c210, y228, A214, c215, y230, A219, c220, y232) (Option.some.inj hp).symm ⟨h225, h227, h229, h231, h233⟩ (look_has ⟨rfl, rfl, rfl, rfl, rfl, trivial⟩) (fun w_ hM => hM)
        ·
         intro HJ10
         refine st_seq ?_
         obtain ⟨x236, hv237, hp⟩ := obind hp
         obtain ⟨x248, hv249, hp⟩ := obind hp
         obtain ⟨x258, hv259, hp⟩ := obind hp
         refine by_bool (b := !x258) (fun hc260 => ?_) (fun hc260 => ?_)
         ·
          have hp := cnd_t hc260 hp
          refine st_region_treeF tourlaw1_SlotsPlays__t1 16 (.node [oT 0, oT 2, oF 1, oF 3, oF 4, oT 5, oT 6, oT 7, oT 9, oT 10, oT 11] (.leaf [oF 8, oF 12, oF 13, oT 14, oT 15]) (.leaf [oF 12, oF 8, oF 13, oT 14, oT 15])) (Mem w0 (Fz F W :: cs)) (by kernel_rfl) (by kernel_rfl) (by kernel_rfl) (by kernel_rfl) (by kernel_rfl) (fun _ d _ _ _ h => by cases d <;> exact h) (M' := Mem w0 (.blk b57 [sl A199 l201 c200, sl A204 l206 c205, sl A209 l211 c210] 127 :: ow A199 l201 c200 3 1 y202 :: ow A204 l206 c205 52 1 y207 :: ow A209 l211 c210 52 1 y212 :: .blk b150 [sl A214 l216 c215, sl A219 l221 c220] 86 :: ow A214 l216 c215 3 1 y217 :: ow A219 l221 c220 4 1 y222 :: Fz F W :: cs)) (fun w_ hM => ⟨hM.drew, hM.drew.sub (.cons _ (.cons _ (.cons _ (.cons _ (.cons _ (.cons _ (.cons _ (.cons_cons _ (.refl _)))))))))⟩) ?_
          refine tree_node ?_
          refine oQ [oT 0, oT 2] [(88, vP b150 0), (86, vP b57 0), (7, vP b57 0), (9, vP b150 0), (43, sl A_l l c_l), (44, vI (l.length : Int)), (45, vI i185)] (by kernel_rfl) ?_
          refine ops_callI (σ := (Option Addr) × Nat × (List Value) × (List Value) × (List Value) × (List Value)) (d := some 87) (f := 47) (args := #[vP b57 0]) (v := (fun x_ => match x_ with | (A261, c262, y263, y264, y265, y266) => sl A261 x236 c262)) (I := (fun x_ => match x_ with | (A261, c262, y263, y264, y265, y266) => (RepL R_api_Ent F W x236 y263) ∧ (RepL (Rep.int .i64) F W l201 y264) ∧ (RepL (Rep.int .u64) F W l206 y265) ∧ (RepL (Rep.int .u64) F W l211 y266))) (M' := (fun x_ => match x_ with | (A261, c262, y263, y264, y265, y266) => Mem w0 (ow A261 x236 c262 35 2 y263 :: .blk b57 [sl A199 l201 c200, sl A204 l206 c205, sl A209 l211 c210] 127 :: ow A199 l201 c200 3 1 y264 :: ow A204 l206 c205 52 1 y265 :: ow A209 l211 c210 52 1 y266 :: .blk b150 [sl A214 l216 c215, sl A219 l221 c220] 86 :: ow A214 l216 c215 3 1 y217 :: ow A219 l221 c220 4 1 y222 :: Fz F W :: cs))) ⟨by kernel_rfl⟩ (fun w_ hM hS => (slots_Slots_List_ok w0 w_ (.blk b150 [sl A214 l216 c215, sl A219 l221 c220] 86 :: ow A214 l216 c215 3 1 y217 :: ow A219 l221 c220 4 1 y222 :: cs) F W b57 A199 c200 l201 y202 A204 c205 l206 y207 A209 c210 l211 y212 (hM.pick 8 [0, 1, 2, 3, 7, 4, 5, 6] (by kernel_rfl) (by decide) rfl) h203 h208 h213 x236 hv237).mono (by rintro e w' ⟨A261, c262, y263, y264, y265, y266, ⟨h267, h268, h269, h270⟩, rfl, h'⟩; have h' : Mem w0 (ow A261 x236 c262 35 2 y263 :: .blk b57 [sl A199 l201 c200, sl A204 l206 c205, sl A209 l211 c210] 127 :: ow A199 l201 c200 3 1 y264 :: ow A204 l206 c205 52 1 y265 :: ow A209 l211 c210 52 1 y266 :: .blk b150 [sl A214 l216 c215, sl A219 l221 c220] 86 :: ow A214 l216 c215 3 1 y217 :: ow A219 l221 c220 4 1 y222 :: Fz F W :: cs) w' := (h'.pick 9 [0, 1, 2, 3, 4, 6, 7, 8, 5] (by kernel_rfl) (by decide) rfl); exact ⟨(A261, c262, y263, y264, y265, y266), ⟨h267, h268, h269, h270⟩, rfl, h', (by exact h'.sub (.cons _ (.cons _ (.cons _ (.cons _ (.cons _ (.cons _ (.cons _ (.cons _ (.cons_cons _ (.refl _)))))))))))⟩)) ?_
          rintro ⟨A261, c262, y263, y264, y265, y266⟩ ⟨h267, h268, h269, h270⟩
          refine ops_callI (σ := (Option Addr) × Nat × (List Value) × (List Value) × (List Value)) (d := some 89) (f := 48) (args := #[vP b150 0]) (v := (fun x_ => match x_ with | (A271, c272, y273, y274, y275) => sl A271 x248 c272)) (I := (fun x_ => match x_ with | (A271, c272, y273, y274, y275) => (RepL R_api_Ent F W x248 y273) ∧ (RepL (Rep.int .i64) F W l216 y274) ∧ (RepL Rep.bool F W l221 y275))) (M' := (fun x_ => match x_ with | (A271, c272, y273, y274, y275) => Mem w0 (ow A271 x248 c272 35 2 y273 :: ow A261 x236 c262 35 2 y263 :: .blk b57 [sl A199 l201 c200, sl A204 l206 c205, sl A209 l211 c210] 127 :: ow A199 l201 c200 3 1 y264 :: ow A204 l206 c205 52 1 y265 :: ow A209 l211 c210 52 1 y266 :: .blk b150 [sl A214 l216 c215, sl A219 l221 c220] 86 :: ow A214 l216 c215 3 1 y274 :: ow A219 l221 c220 4 1 y275 :: Fz F W :: cs))) ⟨by kernel_rfl⟩ (fun w_ hM hS => (tourref1_Room_List_ok w0 w_ (ow A261 x236 c262 35 2 y263 :: .blk b57 [sl A199 l201 c200, sl A204 l206 c205, sl A209 l211 c210] 127 :: ow A199 l201 c200 3 1 y264 :: ow A204 l206 c205 52 1 y265 :: ow A209 l211 c210 52 1 y266 :: cs) F W b150 A214 c215 l216 y217 A219 c220 l221 y222 (hM.pick 9 [5, 6, 7, 8, 0, 1, 2, 3, 4] (by kernel_rfl) (by decide) rfl) h218 h223 x248 hv249).mono (by rintro e w' ⟨A271, c272, y273, y274, y275, ⟨h276, h277, h278⟩, rfl, h'⟩; have h' : Mem w0 (ow A271 x248 c272 35 2 y273 :: ow A261 x236 c262 35 2 y263 :: .blk b57 [sl A199 l201 c200, sl A204 l206 c205, sl A209 l211 c210] 127 :: ow A199 l201 c200 3 1 y264 :: ow A204 l206 c205 52 1 y265 :: ow A209 l211 c210 52 1 y266 :: .blk b150 [sl A214 l216 c215, sl A219 l221 c220] 86 :: ow A214 l216 c215 3 1 y274 :: ow A219 l221 c220 4 1 y275 :: Fz F W :: cs) w' := (h'.pick 10 [0, 5, 6, 7, 8, 9, 1, 2, 3, 4] (by kernel_rfl) (by decide) rfl); exact ⟨(A271, c272, y273, y274, y275), ⟨h276, h277, h278⟩, rfl, h', (by exact h'.sub (.cons _ (.cons _ (.cons _ (.cons _ (.cons _ (.cons _ (.cons _ (.cons _ (.cons _ (.cons_cons _ (.refl _))))))))))))⟩)) ?_
          rintro ⟨A271, c272, y273, y274, y275⟩ ⟨h276, h277, h278⟩
          refine ops_callI (σ := Unit) (d := some 90) (f := 15) (args := #[sl A261 x236 c262, sl A271 x248 c272]) (v := (fun _ => .bool x258)) (I := (fun _ => True)) (M' := (fun _ => Mem w0 (ow A271 x248 c272 35 2 y273 :: ow A261 x236 c262 35 2 y263 :: .blk b57 [sl A199 l201 c200, sl A204 l206 c205, sl A209 l211 c210] 127 :: ow A199 l201 c200 3 1 y264 :: ow A204 l206 c205 52 1 y265 :: ow A209 l211 c210 52 1 y266 :: .blk b150 [sl A214 l216 c215, sl A219 l221 c220] 86 :: ow A214 l216 c215 3 1 y274 :: ow A219 l221 c220 4 1 y275 :: Fz F W :: cs))) ⟨by kernel_rfl⟩ (fun w_ hM hS => (slices_Equal_api_Ent_api_Ent_ok w_ w_ [] (fun b => b < w_.heap.size) w_ A261 c262 x236 A271 c272 x248 (Mem.fz0 w_) (hM.ordS 1 9 rfl rfl h267 rfl rfl) (hM.ordS 0 9 rfl rfl h276 rfl rfl) x258 hv259).mono (by rintro e w' ⟨-, rfl, h'⟩; have h' : Mem w_ [] w' := h'.pick 1 [] (by kernel_rfl) (by decide) rfl; exact ⟨(), trivial, rfl, hM.join h' rfl, (hS.step h'.below)⟩)) ?_
          rintro _ -
          refine oQ [oT 5, oT 6] [(92, .bool (!x258)), (7, vP b57 0), (9, vP b150 0), (43, sl A_l l c_l), (44, vI (l.length : Int)), (45, vI i185)] (by kernel_rfl) ?_
          refine ops_conv (l' := [(92, .bool true), (7, vP b57 0), (9, vP b150 0), (43, sl A_l l c_l), (44, vI (l.length : Int)), (45, vI i185)]) (by rw [hc260]) (fun _ h => h) ?_
          refine oQ [oT 7, oT 9, oT 10, oT 11] [(97, undef), (93, undef), (92, .bool true), (7, vP b57 0), (9, vP b150 0), (43, sl A_l l c_l), (44, vI (l.length : Int)), (45, vI i185)] (by kernel_rfl) ?_
          refine ops_nil ?_
          refine tree_both ?_ ?_
          ·
           refine tree_leaf ?_
           refine oQ [oF 8, oF 12, oF 13, oT 14, oT 15] [(101, .bool true), (7, vP b57 0), (9, vP b150 0), (43, sl A_l l c_l), (44, vI (l.length : Int)), (45, vI i185)] (by kernel_rfl) ?_
           refine ops_nil ?_
           exact fin_join HJ10 (y264, y265, y266, y274, y275, true) ⟨hp, h268, h269, h270, h277, h278⟩ (look_has ⟨rfl, rfl, rfl, rfl, rfl, rfl, trivial⟩) (fun w_ hM => hM.pick 10 [2, 3, 4, 5, 6, 7, 8, 9] (by kernel_rfl) (by decide) rfl)
          ·
           refine tree_leaf ?_
           refine oQ [oF 12, oF 8, oF 13, oT 14, oT 15] [(101, .bool true), (7, vP b57 0), (9, vP b150 0), (43, sl A_l l c_l), (44, vI (l.length : Int)), (45, vI i185)] (by kernel_rfl) ?_
           refine ops_nil ?_
           exact fin_join HJ10 (y264, y265, y266, y274, y275, true) ⟨hp, h268, h269, h270, h277, h278⟩ (look_has ⟨rfl, rfl, rfl, rfl, rfl, rfl, trivial⟩) (fun w_ hM => hM.pick 10 [2, 3, 4, 5, 6, 7, 8, 9] (by kernel_rfl) (by decide) rfl)
         ·
          have hp := cnd_f hc260 hp
          obtain ⟨x297, hv298, hp⟩ := obind hp
          obtain ⟨x309, hv310, hp⟩ := obind hp
          refine st_region_treeF tourlaw1_SlotsPlays__t1 16 (.node [oT 0, oT 2, oF 1, oF 3, oF 4, oT 5, oT 6, oT 7, oT 9, oT 10, oT 11] (.leaf [oF 8, oF 12, oF 13, oT 14, oT 15]) (.leaf [oF 12, oF 8, oF 13, oT 14, oT 15])) (Mem w0 (Fz F W :: cs)) (by kernel_rfl) (by kernel_rfl) (by kernel_rfl) (by kernel_rfl) (by kernel_rfl) (fun _ d _ _ _ h => by cases d <;> exact h) (M' := Mem w0 (.blk b57 [sl A199 l201 c200, sl A204 l206 c205, sl A209 l211 c210] 127 :: ow A199 l201 c200 3 1 y202 :: ow A204 l206 c205 52 1 y207 :: ow A209 l211 c210 52 1 y212 :: .blk b150 [sl A214 l216 c215, sl A219 l221 c220] 86 :: ow A214 l216 c215 3 1 y217 :: ow A219 l221 c220 4 1 y222 :: Fz F W :: cs)) (fun w_ hM => ⟨hM.drew, hM.drew.sub (.cons _ (.cons _ (.cons _ (.cons _ (.cons _ (.cons _ (.cons _ (.cons_cons _ (.refl _)))))))))⟩) ?_
          refine tree_node ?_
          refine oQ [oT 0, oT 2] [(88, vP b150 0), (86, vP b57 0), (7, vP b57 0), (9, vP b150 0), (43, sl A_l l c_l), (44, vI (l.length : Int)), (45, vI i185)] (by kernel_rfl) ?_
          refine ops_callI (σ := (Option Addr) × Nat × (List Value) × (List Value) × (List Value) × (List Value)) (d := some 87) (f := 47) (args := #[vP b57 0]) (v := (fun x_ => match x_ with | (A311, c312, y313, y314, y315, y316) => sl A311 x236 c312)) (I := (fun x_ => match x_ with | (A311, c312, y313, y314, y315, y316) => (RepL R_api_Ent F W x236 y313) ∧ (RepL (Rep.int .i64) F W l201 y314) ∧ (RepL (Rep.int .u64) F W l206 y315) ∧ (RepL (Rep.int .u64) F W l211 y316))) (M' := (fun x_ => match x_ with | (A311, c312, y313, y314, y315, y316) => Mem w0 (ow A311 x236 c312 35 2 y313 :: .blk b57 [sl A199 l201 c200, sl A204 l206 c205, sl A209 l211 c210] 127 :: ow A199 l201 c200 3 1 y314 :: ow A204 l206 c205 52 1 y315 :: ow A209 l211 c210 52 1 y316 :: .blk b150 [sl A214 l216 c215, sl A219 l221 c220] 86 :: ow A214 l216 c215 3 1 y217 :: ow A219 l221 c220 4 1 y222 :: Fz F W :: cs))) ⟨by kernel_rfl⟩ (fun w_ hM hS => (slots_Slots_List_ok w0 w_ (.blk b150 [sl A214 l216 c215, sl A219 l221 c220] 86 :: ow A214 l216 c215 3 1 y217 :: ow A219 l221 c220 4 1 y222 :: cs) F W b57 A199 c200 l201 y202 A204 c205 l206 y207 A209 c210 l211 y212 (hM.pick 8 [0, 1, 2, 3, 7, 4, 5, 6] (by kernel_rfl) (by decide) rfl) h203 h208 h213 x236 hv237).mono (by rintro e w' ⟨A311, c312, y313, y314, y315, y316, ⟨h317, h318, h319, h320⟩, rfl, h'⟩; have h' : Mem w0 (ow A311 x236 c312 35 2 y313 :: .blk b57 [sl A199 l201 c200, sl A204 l206 c205, sl A209 l211 c210] 127 :: ow A199 l201 c200 3 1 y314 :: ow A204 l206 c205 52 1 y315 :: ow A209 l211 c210 52 1 y316 :: .blk b150 [sl A214 l216 c215, sl A219 l221 c220] 86 :: ow A214 l216 c215 3 1 y217 :: ow A219 l221 c220 4 1 y222 :: Fz F W :: cs) w' := (h'.pick 9 [0, 1, 2, 3, 4, 6, 7, 8, 5] (by kernel_rfl) (by decide) rfl); exact ⟨(A311, c312, y313, y314, y315, y316), ⟨h317, h318, h319, h320⟩, rfl, h', (by exact h'.sub (.cons _ (.cons _ (.cons _ (.cons _ (.cons _ (.cons _ (.cons _ (.cons _ (.cons_cons _ (.refl _)))))))))))⟩)) ?_
          rintro ⟨A311, c312, y313, y314, y315, y316⟩ ⟨h317, h318, h319, h320⟩
          refine ops_callI (σ := (Option Addr) × Nat × (List Value) × (List Value) × (List Value)) (d := some 89) (f := 48) (args := #[vP b150 0]) (v := (fun x_ => match x_ with | (A321, c322, y323, y324, y325) => sl A321 x248 c322)) (I := (fun x_ => match x_ with | (A321, c322, y323, y324, y325) => (RepL R_api_Ent F W x248 y323) ∧ (RepL (Rep.int .i64) F W l216 y324) ∧ (RepL Rep.bool F W l221 y325))) (M' := (fun x_ => match x_ with | (A321, c322, y323, y324, y325) => Mem w0 (ow A321 x248 c322 35 2 y323 :: ow A311 x236 c312 35 2 y313 :: .blk b57 [sl A199 l201 c200, sl A204 l206 c205, sl A209 l211 c210] 127 :: ow A199 l201 c200 3 1 y314 :: ow A204 l206 c205 52 1 y315 :: ow A209 l211 c210 52 1 y316 :: .blk b150 [sl A214 l216 c215, sl A219 l221 c220] 86 :: ow A214 l216 c215 3 1 y324 :: ow A219 l221 c220 4 1 y325 :: Fz F W :: cs))) ⟨by kernel_rfl⟩ (fun w_ hM hS => (tourref1_Room_List_ok w0 w_ (ow A311 x236 c312 35 2 y313 :: .blk b57 [sl A199 l201 c200, sl A204 l206 c205, sl A209 l211 c210] 127 :: ow A199 l201 c200 3 1 y314 :: ow A204 l206 c205 52 1 y315 :: ow A209 l211 c210 52 1 y316 :: cs) F W b150 A214 c215 l216 y217 A219 c220 l221 y222 (hM.pick 9 [5, 6, 7, 8, 0, 1, 2, 3, 4] (by kernel_rfl) (by decide) rfl) h218 h223 x248 hv249).mono (by rintro e w' ⟨A321, c322, y323, y324, y325, ⟨h326, h327, h328⟩, rfl, h'⟩; have h' : Mem w0 (ow A321 x248 c322 35 2 y323 :: ow A311 x236 c312 35 2 y313 :: .blk b57 [sl A199 l201 c200, sl A204 l206 c205, sl A209 l211 c210] 127 :: ow A199 l201 c200 3 1 y314 :: ow A204 l206 c205 52 1 y315 :: ow A209 l211 c210 52 1 y316 :: .blk b150 [sl A214 l216 c215, sl A219 l221 c220] 86 :: ow A214 l216 c215 3 1 y324 :: ow A219 l221 c220 4 1 y325 :: Fz F W :: cs) w' := (h'.pick 10 [0, 5, 6, 7, 8, 9, 1, 2, 3, 4] (by kernel_rfl) (by decide) rfl); exact ⟨(A321, c322, y323, y324, y325), ⟨h326, h327, h328⟩, rfl, h', (by exact h'.sub (.cons _ (.cons _ (.cons _ (.cons _ (.cons _ (.cons _ (.cons _ (.cons _ (.cons _ (.cons_cons _ (.refl _))))))))))))⟩)) ?_
          rintro ⟨A321, c322, y323, y324, y325⟩ ⟨h326, h327, h328⟩
          refine ops_callI (σ := Unit) (d := some 90) (f := 15) (args := #[sl A311 x236 c312, sl A321 x248 c322]) (v := (fun _ => .bool x258)) (I := (fun _ => True)) (M' := (fun _ => Mem w0 (ow A321 x248 c322 35 2 y323 :: ow A311 x236 c312 35 2 y313 :: .blk b57 [sl A199 l201 c200, sl A204 l206 c205, sl A209 l211 c210] 127 :: ow A199 l201 c200 3 1 y314 :: ow A204 l206 c205 52 1 y315 :: ow A209 l211 c210 52 1 y316 :: .blk b150 [sl A214 l216 c215, sl A219 l221 c220] 86 :: ow A214 l216 c215 3 1 y324 :: ow A219 l221 c220 4 1 y325 :: Fz F W :: cs))) ⟨by kernel_rfl⟩ (fun w_ hM hS => (slices_Equal_api_Ent_api_Ent_ok w_ w_ [] (fun b => b < w_.heap.size) w_ A311 c312 x236 A321 c322 x248 (Mem.fz0 w_) (hM.ordS 1 9 rfl rfl h317 rfl rfl) (hM.ordS 0 9 rfl rfl h326 rfl rfl) x258 hv259).mono (by rintro e w' ⟨-, rfl, h'⟩; have h' : Mem w_ [] w' := h'.pick 1 [] (by kernel_rfl) (by decide) rfl; exact ⟨(), trivial, rfl, hM.join h' rfl, (hS.step h'.below)⟩)) ?_
          rintro _ -
          refine oQ [oT 5, oT 6] [(92, .bool (!x258)), (7, vP b57 0), (9, vP b150 0), (43, sl A_l l c_l), (44, vI (l.length : Int)), (45, vI i185)] (by kernel_rfl) ?_
          refine ops_conv (l' := [(92, .bool false), (7, vP b57 0), (9, vP b150 0), (43, sl A_l l c_l), (44, vI (l.length : Int)), (45, vI i185)]) (by rw [hc260]) (fun _ h => h) ?_
          refine oQ [oT 7, oT 9, oT 10, oT 11] [(97, vP b150 0), (93, vP b57 0), (92, .bool false), (7, vP b57 0), (9, vP b150 0), (43, sl A_l l c_l), (44, vI (l.length : Int)), (45, vI i185)] (by kernel_rfl) ?_
          refine ops_nil ?_
          refine tree_both ?_ ?_
          ·
           refine tree_leaf ?_
           refine ops_callI (σ := (Option Addr) × Nat × (List Value) × (List Value) × (List Value) × (List Value)) (d := some 94) (f := 49) (args := #[vP b57 0]) (v := (fun x_ => match x_ with | (A329, c330, y331, y332, y333, y334) => sl A329 x297 c330)) (I := (fun x_ => match x_ with | (A329, c330, y331, y332, y333, y334) => (RepL (Rep.int .i64) F W x297 y331) ∧ (RepL (Rep.int .i64) F W l201 y332) ∧ (RepL (Rep.int .u64) F W l206 y333) ∧ (RepL (Rep.int .u64) F W l211 y334))) (M' := (fun x_ => match x_ with | (A329, c330, y331, y332, y333, y334) => Mem w0 (ow A329 x297 c330 3 1 y331 :: ow A321 x248 c322 35 2 y323 :: ow A311 x236 c312 35 2 y313 :: .blk b57 [sl A199 l201 c200, sl A204 l206 c205, sl A209 l211 c210] 127 :: ow A199 l201 c200 3 1 y332 :: ow A204 l206 c205 52 1 y333 :: ow A209 l211 c210 52 1 y334 :: .blk b150 [sl A214 l216 c215, sl A219 l221 c220] 86 :: ow A214 l216 c215 3 1 y324 :: ow A219 l221 c220 4 1 y325 :: Fz F W :: cs))) ⟨by kernel_rfl⟩ (fun w_ hM hS => (slots_Slots_Gens_ok w0 w_ (ow A321 x248 c322 35 2 y323 :: ow A311 x236 c312 35 2 y313 :: .blk b150 [sl A214 l216 c215, sl A219 l221 c220] 86 :: ow A214 l216 c215 3 1 y324 :: ow A219 l221 c220 4 1 y325 :: cs) F W b57 A199 c200 l201 y314 A204 c205 l206 y315 A209 c210 l211 y316 (hM.pick 10 [2, 3, 4, 5, 9, 0, 1, 6, 7, 8] (by kernel_rfl) (by decide) rfl) h318 h319 h320 x297 hv298).mono (by rintro e w' ⟨A329, c330, y331, y332, y333, y334, ⟨h335, h336, h337, h338⟩, rfl, h'⟩; have h' : Mem w0 (ow A329 x297 c330 3 1 y331 :: ow A321 x248 c322 35 2 y323 :: ow A311 x236 c312 35 2 y313 :: .blk b57 [sl A199 l201 c200, sl A204 l206 c205, sl A209 l211 c210] 127 :: ow A199 l201 c200 3 1 y332 :: ow A204 l206 c205 52 1 y333 :: ow A209 l211 c210 52 1 y334 :: .blk b150 [sl A214 l216 c215, sl A219 l221 c220] 86 :: ow A214 l216 c215 3 1 y324 :: ow A219 l221 c220 4 1 y325 :: Fz F W :: cs) w' := (h'.pick 11 [0, 6, 7, 1, 2, 3, 4, 8, 9, 10, 5] (by kernel_rfl) (by decide) rfl); exact ⟨(A329, c330, y331, y332, y333, y334), ⟨h335, h336, h337, h338⟩, rfl, h', (by exact h'.sub (.cons _ (.cons _ (.cons _ (.cons _ (.cons _ (.cons _ (.cons _ (.cons _ (.cons _ (.cons _ (.cons_cons _ (.refl _)))))))))))))⟩)) ?_
           rintro ⟨A329, c330, y331, y332, y333, y334⟩ ⟨h335, h336, h337, h338⟩
           refine ops_mem (d := some 98) (an := [.v (sl A214 l216 c215)]) (evs := [ld b150 0 (sl A214 l216 c215)]) (v := sl A214 l216 c215) ⟨by kernel_rfl⟩ (fun w_ hM hS => ⟨w_, ⟨hM.cell 7 rfl rfl, rfl⟩, hM, hS⟩) ?_
           refine ops_callI (σ := Unit) (d := some 99) (f := 14) (args := #[sl A329 x297 c330, sl A214 l216 c215]) (v := (fun _ => .bool x309)) (I := (fun _ => True)) (M' := (fun _ => Mem w0 (ow A329 x297 c330 3 1 y331 :: ow A321 x248 c322 35 2 y323 :: ow A311 x236 c312 35 2 y313 :: .blk b57 [sl A199 l201 c200, sl A204 l206 c205, sl A209 l211 c210] 127 :: ow A199 l201 c200 3 1 y332 :: ow A204 l206 c205 52 1 y333 :: ow A209 l211 c210 52 1 y334 :: .blk b150 [sl A214 l216 c215, sl A219 l221 c220] 86 :: ow A214 l216 c215 3 1 y324 :: ow A219 l221 c220 4 1 y325 :: Fz F W :: cs))) ⟨by kernel_rfl⟩ (fun w_ hM hS => (slices_Equal_int_int_ok w_ w_ [] (fun b => b < w_.heap.size) w_ A329 c330 x297 A214 c215 l216 (Mem.fz0 w_) (hM.ordS 0 10 rfl rfl h335 rfl rfl) (hM.ordS 8 10 rfl rfl h327 rfl rfl) x309 hv310).mono (by rintro e w' ⟨-, rfl, h'⟩; have h' : Mem w_ [] w' := h'.pick 1 [] (by kernel_rfl) (by decide) rfl; exact ⟨(), trivial, rfl, hM.join h' rfl, (hS.step h'.below)⟩)) ?_
           rintro _ -
           refine oQ [oT 14, oT 15] [(101, .bool (!x309)), (7, vP b57 0), (9, vP b150 0), (43, sl A_l l c_l), (44, vI (l.length : Int)), (45, vI i185)] (by kernel_rfl) ?_
           refine ops_nil ?_
           exact fin_join HJ10 (y332, y333, y334, y324, y325, !x309) ⟨hp, h336, h337, h338, h327, h328⟩ (look_has ⟨rfl, rfl, rfl, rfl, rfl, rfl, trivial⟩) (fun w_ hM => hM.pick 11 [3, 4, 5, 6, 7, 8, 9, 10] (by kernel_rfl) (by decide) rfl)
          ·
           refine tree_leaf ?_
           refine ops_mem (d := some 98) (an := [.v (sl A214 l216 c215)]) (evs := [ld b150 0 (sl A214 l216 c215)]) (v := sl A214 l216 c215) ⟨by kernel_rfl⟩ (fun w_ hM hS => ⟨w_, ⟨hM.cell 6 rfl rfl, rfl⟩, hM, hS⟩) ?_
           refine ops_callI (σ := (Option Addr) × Nat × (List Value) × (List Value) × (List Value) × (List Value)) (d := some 94) (f := 49) (args := #[vP b57 0]) (v := (fun x_ => match x_ with | (A339, c340, y341, y342, y343, y344) => sl A339 x297 c340)) (I := (fun x_ => match x_ with | (A339, c340, y341, y342, y343, y344) => (RepL (Rep.int .i64) F W x297 y341) ∧ (RepL (Rep.int .i64) F W l201 y342) ∧ (RepL (Rep.int .u64) F W l206 y343) ∧ (RepL (Rep.int .u64) F W l211 y344))) (M' := (fun x_ => match x_ with | (A339, c340, y341, y342, y343, y344) => Mem w0 (ow A339 x297 c340 3 1 y341 :: ow A321 x248 c322 35 2 y323 :: ow A311 x236 c312 35 2 y313 :: .blk b57 [sl A199 l201 c200, sl A204 l206 c205, sl A209 l211 c210] 127 :: ow A199 l201 c200 3 1 y342 :: ow A204 l206 c205 52 1 y343 :: ow A209 l211 c210 52 1 y344 :: .blk b150 [sl A214 l216 c215, sl A219 l221 c220] 86 :: ow A214 l216 c215 3 1 y324 :: ow A219 l221 c220 4 1 y325 :: Fz F W :: cs))) ⟨by kernel_rfl⟩ (fun w_ hM hS => (slots_Slots_Gens_ok w0 w_ (ow A321 x248 c322 35 2 y323 :: ow A311 x236 c312 35 2 y313 :: .blk b150 [sl A214 l216 c215, sl A219 l221 c220] 86 :: ow A214 l216 c215 3 1 y324 :: ow A219 l221 c220 4 1 y325 :: cs) F W b57 A199 c200 l201 y314 A204 c205 l206 y315 A209 c210 l211 y316 (hM.pick 10 [2, 3, 4, 5, 9, 0, 1, 6, 7, 8] (by kernel_rfl) (by decide) rfl) h318 h319 h320 x297 hv298).mono (by rintro e w' ⟨A339, c340, y341, y342, y343, y344, ⟨h345, h346, h347, h348⟩, rfl, h'⟩; have h' : Mem w0 (ow A339 x297 c340 3 1 y341 :: ow A321 x248 c322 35 2 y323 :: ow A311 x236 c312 35 2 y313 :: .blk b57 [sl A199 l201 c200, sl A204 l206 c205, sl A209 l211 c210] 127 :: ow A199 l201 c200 3 1 y342 :: ow A204 l206 c205 52 1 y343 :: ow A209 l211 c210 52 1 y344 :: .blk b150 [sl A214 l216 c215, sl A219 l221 c220] 86 :: ow A214 l216 c215 3 1 y324 :: ow A219 l221 c220 4 1 y325 :: Fz F W :: cs) w' := (h'.pick 11 [0, 6, 7, 1, 2, 3, 4, 8, 9, 10, 5] (by kernel_rfl) (by decide) rfl); exact ⟨(A339, c340, y341, y342, y343, y344), ⟨h345, h346, h347, h348⟩, rfl, h', (by exact h'.sub (.cons _ (.cons _ (.cons _ (.cons _ (.cons _ (.cons _ (.cons _ (.cons _ (.cons _ (.cons _ (.cons_cons _ (.refl _)))))))))))))⟩)) ?_
           rintro ⟨A339, c340, y341, y342, y343, y344⟩ ⟨h345, h346, h347, h348⟩
           refine ops_callI (σ := Unit) (d := some 99) (f := 14) (args := #[sl A339 x297 c340, sl A214 l216 c215]) (v := (fun _ => .bool x309)) (I := (fun _ => True)) (M' := (fun _ => Mem w0 (ow A339 x297 c340 3 1 y341 :: ow A321 x248 c322 35 2 y323 :: ow A311 x236 c312 35 2 y313 :: .blk b57 [sl A199 l201 c200, sl A204 l206 c205, sl A209 l211 c210] 127 :: ow A199 l201 c200 3 1 y342 :: ow A204 l206 c205 52 1 y343 :: ow A209 l211 c210 52 1 y344 :: .blk b150 [sl A214 l216 c215, sl A219 l221 c220] 86 :: ow A214 l216 c215 3 1 y324 :: ow A219 l221 c220 4 1 y325 :: Fz F W :: cs))) ⟨by kernel_rfl⟩ (fun w_ hM hS => (slices_Equal_int_int_ok w_ w_ [] (fun b => b < w_.heap.size) w_ A339 c340 x297 A214 c215 l216 (Mem.fz0 w_) (hM.ordS 0 10 rfl rfl h345 rfl rfl) (hM.ordS 8 10 rfl rfl h327 rfl rfl) x309 hv310).mono (by rintro e w' ⟨-, rfl, h'⟩; have h' : Mem w_ [] w' := h'.pick 1 [] (by kernel_rfl) (by decide) rfl; exact ⟨(), trivial, rfl, hM.join h' rfl, (hS.step h'.below)⟩)) ?_
           rintro _ -
           refine oQ [oT 14, oT 15] [(101, .bool (!x309)), (7, vP b57 0), (9, vP b150 0), (43, sl A_l l c_l), (44, vI (l.length : Int)), (45, vI i185)] (by kernel_rfl) ?_
           refine ops_nil ?_
           exact fin_join HJ10 (y342, y343, y344, y324, y325, !x309) ⟨hp, h346, h347, h348, h327, h328⟩ (look_has ⟨rfl, rfl, rfl, rfl, rfl, rfl, trivial⟩) (fun w_ hM => hM.pick 11 [3, 4, 5, 6, 7, 8, 9, 10] (by kernel_rfl) (by decide) rfl)
       ·
        intro HJ9
        refine st_seq (st_seq (st_region [oF 0, oF 1, oF 2] (by rfl) ?_))
        refine oQ [oF 0] [(49, vP b198 0), (12, vP b198 0), (7, vP b57 0), (9, vP b150 0), (43, sl A_l l c_l), (44, vI (l.length : Int)), (45, vI i185)] (by kernel_rfl) ?_
        refine ops_mem (d := some 50) (an := [.v (vI x187.N)]) (evs := [ld b198 0 (vI x187.N)]) (v := vI x187.N) ⟨by kernel_rfl⟩ (fun w_ hM hS => ⟨w_, ⟨hM.cell 0 rfl rfl, rfl⟩, hM, trivial⟩) ?_
        refine oQ [oF 2] [(51, .bool (x187.N == (-1))), (12, vP b198 0), (7, vP b57 0), (9, vP b150 0), (43, sl A_l l c_l), (44, vI (l.length : Int)), (45, vI i185)] (by kernel_rfl) ?_
        refine ops_nil (fin_then ?_)
        refine st_if (b := (x187.N == (-1))) rfl (fun hc349 => ?_) (fun hc349 => ?_)
        ·
         have hp := cnd_t hc349 hp
         refine st_seq (st_region [oF 0, oF 1, oF 2, oF 3, oF 4, oF 5, oF 6, oF 7] (by rfl) ?_)
         refine oQ [oF 0] [(53, vP b57 0), (7, vP b57 0), (9, vP b150 0), (43, sl A_l l c_l), (44, vI (l.length : Int)), (45, vI i185)] (by kernel_rfl) ?_
         obtain ⟨x350, x351, x352, x353, x354, x355, hv356, hp⟩ := obind6 hp
         refine ops_callI (σ := (Option Addr) × Nat × (List Value) × (Option Addr) × Nat × (List Value) × (Option Addr) × Nat × (List Value)) (d := some 54) (f := 41) (args := #[vP b57 0]) (v := (fun x_ => match x_ with | (A357, c358, y359, A360, c361, y362, A363, c364, y365) => .tuple #[.agg #[vI x350, vI x351], vI x352])) (I := (fun x_ => match x_ with | (A357, c358, y359, A360, c361, y362, A363, c364, y365) => (RepL (Rep.int .i64) F W x353 y359) ∧ (RepL (Rep.int .u64) F W x354 y362) ∧ (RepL (Rep.int .u64) F W x355 y365))) (M' := (fun x_ => match x_ with | (A357, c358, y359, A360, c361, y362, A363, c364, y365) => Mem w0 (ow A357 x353 c358 3 1 y359 :: ow A360 x354 c361 52 1 y362 :: ow A363 x355 c364 52 1 y365 :: .blk b198 [vI x187.N, vI x187.Gen] 35 :: .blk b57 [sl A357 x353 c358, sl A360 x354 c361, sl A363 x355 c364] 127 :: .blk b150 [sl A175 l177 c176, sl A180 l182 c181] 86 :: ow A175 l177 c176 3 1 y178 :: ow A180 l182 c181 4 1 y183 :: Fz F W :: cs))) ⟨by kernel_rfl⟩ (fun w_ hM hS => (slots_Slots_Take_ok w0 w_ (.blk b198 [vI x187.N, vI x187.Gen] 35 :: .blk b150 [sl A175 l177 c176, sl A180 l182 c181] 86 :: ow A175 l177 c176 3 1 y178 :: ow A180 l182 c181 4 1 y183 :: cs) F W b57 A160 c161 l162 y163 A165 c166 l167 y168 A170 c171 l172 y173 (hM.pick 9 [1, 2, 3, 4, 8, 0, 5, 6, 7] (by kernel_rfl) (by decide) rfl) h164 h169 h174 x350 x351 x352 x353 x354 x355 hv356).mono (by rintro e w' ⟨A357, c358, y359, A360, c361, y362, A363, c364, y365, ⟨h366, h367, h368⟩, rfl, h'⟩; have h' : Mem w0 (ow A357 x353 c358 3 1 y359 :: ow A360 x354 c361 52 1 y362 :: ow A363 x355 c364 52 1 y365 :: .blk b198 [vI x187.N, vI x187.Gen] 35 :: .blk b57 [sl A357 x353 c358, sl A360 x354 c361, sl A363 x355 c364] 127 :: .blk b150 [sl A175 l177 c176, sl A180 l182 c181] 86 :: ow A175 l177 c176 3 1 y178 :: ow A180 l182 c181 4 1 y183 :: Fz F W :: cs) w' := (h'.pick 9 [1, 2, 3, 5, 0, 6, 7, 8, 4] (by kernel_rfl) (by decide) rfl); exact ⟨(A357, c358, y359, A360, c361, y362, A363, c364, y365), ⟨h366, h367, h368⟩, rfl, h', trivial⟩)) ?_
         rintro ⟨A357, c358, y359, A360, c361, y362, A363, c364, y365⟩ ⟨h366, h367, h368⟩
         refine oQ [oF 2, oF 3, oF 4] [(56, vI x352), (55, .agg #[vI x350, vI x351]), (7, vP b57 0), (9, vP b150 0), (43, sl A_l l c_l), (44, vI (l.length : Int)), (45, vI i185)] (by kernel_rfl) ?_
         refine ops_newB (d := some 13) [vI 0, vI 0] 35 (fun b369 => ⟨by kernel_rfl⟩) (fun w_ hM hS => trivial) (fun b369 => ?_)
         refine ops_store (an := []) (evs := [sr b369 0 (vI x350), sr b369 1 (vI x351)]) ⟨by kernel_rfl⟩ (fun w_ hM hS => let ⟨w', he, h'⟩ := hM.evs_stores [vI x350, vI x351] 0 rfl 0 (Nat.le_of_ble_eq_true rfl); ⟨w', he, h', trivial⟩) ?_
         refine oQ [oF 7] [(14, vI x352), (13, vP b369 0), (7, vP b57 0), (9, vP b150 0), (43, sl A_l l c_l), (44, vI (l.length : Int)), (45, vI i185)] (by kernel_rfl) ?_
         refine ops_nil (fin_then (st_seq (st_region [oF 0, oF 1, oF 2, oF 3, oF 4, oF 5, oF 6, oF 7] (by rfl) ?_)))
         refine oQ [oF 0] [(58, vP b150 0), (14, vI x352), (13, vP b369 0), (7, vP b57 0), (9, vP b150 0), (43, sl A_l l c_l), (44, vI (l.length : Int)), (45, vI i185)] (by kernel_rfl) ?_
         obtain ⟨x370, x371, x372, x373, x374, hv375, hp⟩ := obind5 hp
         refine ops_callI (σ := (Option Addr) × Nat × (List Value) × (Option Addr) × Nat × (List Value)) (d := some 59) (f := 42) (args := #[vP b150 0]) (v := (fun x_ => match x_ with | (A376, c377, y378, A379, c380, y381) => .tuple #[.agg #[vI x370, vI x371], vI x372])) (I := (fun x_ => match x_ with | (A376, c377, y378, A379, c380, y381) => (RepL (Rep.int .i64) F W x373 y378) ∧ (RepL Rep.bool F W x374 y381))) (M' := (fun x_ => match x_ with | (A376, c377, y378, A379, c380, y381) => Mem w0 (ow A376 x373 c377 3 1 y378 :: ow A379 x374 c380 4 1 y381 :: .blk b369 [vI x350, vI x351] 35 :: ow A357 x353 c358 3 1 y359 :: ow A360 x354 c361 52 1 y362 :: ow A363 x355 c364 52 1 y365 :: .blk b198 [vI x187.N, vI x187.Gen] 35 :: .blk b57 [sl A357 x353 c358, sl A360 x354 c361, sl A363 x355 c364] 127 :: .blk b150 [sl A376 x373 c377, sl A379 x374 c380] 86 :: Fz F W :: cs))) ⟨by kernel_rfl⟩ (fun w_ hM hS => (tourref1_Room_Take_ok w0 w_ (.blk b369 [vI x350, vI x351] 35 :: ow A357 x353 c358 3 1 y359 :: ow A360 x354 c361 52 1 y362 :: ow A363 x355 c364 52 1 y365 :: .blk b198 [vI x187.N, vI x187.Gen] 35 :: .blk b57 [sl A357 x353 c358, sl A360 x354 c361, sl A363 x355 c364] 127 :: cs) F W b150 A175 c176 l177 y178 A180 c181 l182 y183 (hM.pick 10 [6, 7, 8, 9, 0, 1, 2, 3, 4, 5] (by kernel_rfl) (by decide) rfl) h179 h184 x370 x371 x372 x373 x374 hv375).mono (by rintro e w' ⟨A376, c377, y378, A379, c380, y381, ⟨h382, h383⟩, rfl, h'⟩; have h' : Mem w0 (ow A376 x373 c377 3 1 y378 :: ow A379 x374 c380 4 1 y381 :: .blk b369 [vI x350, vI x351] 35 :: ow A357 x353 c358 3 1 y359 :: ow A360 x354 c361 52 1 y362 :: ow A363 x355 c364 52 1 y365 :: .blk b198 [vI x187.N, vI x187.Gen] 35 :: .blk b57 [sl A357 x353 c358, sl A360 x354 c361, sl A363 x355 c364] 127 :: .blk b150 [sl A376 x373 c377, sl A379 x374 c380] 86 :: Fz F W :: cs) w' := (h'.pick 10 [1, 2, 4, 5, 6, 7, 8, 9, 0, 3] (by kernel_rfl) (by decide) rfl); exact ⟨(A376, c377, y378, A379, c380, y381), ⟨h382, h383⟩, rfl, h', trivial⟩)) ?_
         rintro ⟨A376, c377, y378, A379, c380, y381⟩ ⟨h382, h383⟩
         refine oQ [oF 2, oF 3, oF 4] [(61, vI x372), (60, .agg #[vI x370, vI x371]), (14, vI x352), (13, vP b369 0), (7, vP b57 0), (9, vP b150 0), (43, sl A_l l c_l), (44, vI (l.length : Int)), (45, vI i185)] (by kernel_rfl) ?_
         refine ops_newB (d := some 15) [vI 0, vI 0] 35 (fun b384 => ⟨by kernel_rfl⟩) (fun w_ hM hS => trivial) (fun b384 => ?_)
         refine ops_store (an := []) (evs := [sr b384 0 (vI x370), sr b384 1 (vI x371)]) ⟨by kernel_rfl⟩ (fun w_ hM hS => let ⟨w', he, h'⟩ := hM.evs_stores [vI x370, vI x371] 0 rfl 0 (Nat.le_of_ble_eq_true rfl); ⟨w', he, h', trivial⟩) ?_
         refine oQ [oF 7] [(16, vI x372), (15, vP b384 0), (14, vI x352), (13, vP b369 0), (7, vP b57 0), (9, vP b150 0), (43, sl A_l l c_l), (44, vI (l.length : Int)), (45, vI i185)] (by kernel_rfl) ?_
         refine ops_nil (fin_then (st_seq (st_region [oF 0, oF 1, oF 2, oF 3, oF 4, oF 5, oF 6, oF 7] (by rfl) ?_)))
         refine ops_mem (d := some 62) (an := [.v (vI x350), .v (vI x351)]) (evs := [ld b369 0 (vI x350), ld b369 1 (vI x351)]) (v := .agg #[vI x350, vI x351]) ⟨by kernel_rfl⟩ (fun w_ hM hS => ⟨w_, ⟨hM.cell 3 rfl rfl, hM.cell 3 rfl rfl, rfl⟩, hM, trivial⟩) ?_
         refine ops_mem (d := some 63) (an := [.v (vI x370), .v (vI x371)]) (evs := [ld b384 0 (vI x370), ld b384 1 (vI x371)]) (v := .agg #[vI x370, vI x371]) ⟨by kernel_rfl⟩ (fun w_ hM hS => ⟨w_, ⟨hM.cell 0 rfl rfl, hM.cell 0 rfl rfl, rfl⟩, hM, trivial⟩) ?_
         refine ops_val (op := (.binOp Go.BinOp.neq 35 (.tmp 62) (.tmp 63) 35)) (d := some 64) (v := .bool (!(x350 == x370 && (x351 == x371)))) ⟨by kernel_rfl⟩ (run_neq_agg (r := x350 == x370 && (x351 == x371)) rfl rfl (by kernel_rfl) (fun w => eqA35 9998 w x350 x370 x351 x371)) ?_
         refine oQ [oF 3] [(65, .bool (!(x350 == x370 && (x351 == x371)))), (16, vI x372), (14, vI x352), (7, vP b57 0), (9, vP b150 0), (43, sl A_l l c_l), (44, vI (l.length : Int)), (45, vI i185)] (by kernel_rfl) ?_
         refine ops_bool (t := !(x350 == x370 && (x351 == x371))) (l1 := [(65, .bool true), (16, vI x372), (14, vI x352), (7, vP b57 0), (9, vP b150 0), (43, sl A_l l c_l), (44, vI (l.length : Int)), (45, vI i185)]) (l2 := [(65, .bool false), (16, vI x372), (14, vI x352), (7, vP b57 0), (9, vP b150 0), (43, sl A_l l c_l), (44, vI (l.length : Int)), (45, vI i185)]) (fun h => by rw [h]) (fun h => by rw [h]) (fun hc385 => ?_) (fun hc385 => ?_)
         ·
          have hp := cnd_t hc385 hp
          refine oQ [oF 4, oF 5, oF 6, oF 7] [(69, .bool true), (7, vP b57 0), (9, vP b150 0), (43, sl A_l l c_l), (44, vI (l.length : Int)), (45, vI i185)] (by kernel_rfl) ?_
          refine ops_nil (fin_then (st_true rfl (st_seq (st_region [oF 0] (by rfl) ?_))))
          refine oQ [oF 0] [(6, .bool false)] (by kernel_rfl) ?_
          refine ops_nil (fin_then (st_ret (fin_ret_then (fin_ret_block (fin_ret_then (fin_ret_then (fin_ret_block (fin_ret_then ?_))))))))
          obtain hq_ := Option.some.inj hp
          subst hq_
          obtain hq_ := hd8 _ rfl
          subst hq_
          have hp : some false = some t9001 := hk8
          have hq_ := Option.some.inj hp
          have hr0_ := hq_
          subst hr0_
          refine fin_ret [.tmp 6] [.bool false] rfl rfl (fun w_ hM => (.tmp rfl .nil)) (fun w_ hM => ?_)
          exact ⟨trivial, rfl, hM.pick 11 [10] (by kernel_rfl) (by decide) rfl⟩
         ·
          have hp := cnd_f hc385 hp
          refine oQ [oF 4, oF 5, oF 6, oF 7] [(69, .bool (!(x352 == x372))), (7, vP b57 0), (9, vP b150 0), (43, sl A_l l c_l), (44, vI (l.length : Int)), (45, vI i185)] (by kernel_rfl) ?_
          refine ops_nil (fin_then ?_)
          refine st_if (b := !(x352 == x372)) rfl (fun hc386 => ?_) (fun hc386 => ?_)
          ·
           have hp := cnd_t hc386 hp
           refine st_seq (st_region [oF 0] (by rfl) ?_)
           refine oQ [oF 0] [(6, .bool false)] (by kernel_rfl) ?_
           refine ops_nil (fin_then (st_ret (fin_ret_then (fin_ret_block (fin_ret_then (fin_ret_then (fin_ret_block (fin_ret_then ?_))))))))
           obtain hq_ := Option.some.inj hp
           subst hq_
           obtain hq_ := hd8 _ rfl
           subst hq_
           have hp : some false = some t9001 := hk8
           have hq_ := Option.some.inj hp
           have hr0_ := hq_
           subst hr0_
           refine fin_ret [.tmp 6] [.bool false] rfl rfl (fun w_ hM => (.tmp rfl .nil)) (fun w_ hM => ?_)
           exact ⟨trivial, rfl, hM.pick 11 [10] (by kernel_rfl) (by decide) rfl⟩
          ·
           have hp := cnd_f hc386 hp
           refine st_skip ?_
           exact fin_join HJ9 (A357, c358, x353, y359, A360, c361, x354, y362, A363, c364, x355, y365, A376, c377, x373, y378, A379, c380, x374, y381) ⟨hp, h366, h367, h368, h382, h383⟩ (look_has ⟨rfl, rfl, rfl, rfl, rfl, trivial⟩) (fun w_ hM => hM.pick 11 [8, 4, 5, 6, 9, 1, 2, 10] (by kernel_rfl) (by decide) rfl)
        ·
         have hp := cnd_f hc349 hp
         refine st_seq ?_
         refine st_region_fast tourlaw1_SlotsPlays__t0 [oT 0, oT 1, oT 3, oT 4, oF 2, oF 5, oT 6, oT 7, oT 8, oT 9, oT 11, oT 12, oF 10, oF 13, oT 14, oT 15] (Mem w0 (.blk b198 [vI x187.N, vI x187.Gen] 35 :: Fz F W :: cs)) (by kernel_rfl) (by kernel_rfl) (by kernel_rfl) (by kernel_rfl) (by kernel_rfl) (fun _ d _ _ _ h => by cases d <;> exact h) (M' := Mem w0 (.blk b198 [vI x187.N, vI x187.Gen] 35 :: .blk b57 [sl A160 l162 c161, sl A165 l167 c166, sl A170 l172 c171] 127 :: ow A160 l162 c161 3 1 y163 :: ow A165 l167 c166 52 1 y168 :: ow A170 l172 c171 52 1 y173 :: .blk b150 [sl A175 l177 c176, sl A180 l182 c181] 86 :: ow A175 l177 c176 3 1 y178 :: ow A180 l182 c181 4 1 y183 :: Fz F W :: cs)) (fun w_ hM => ⟨hM.drew, hM.drew.sub (.cons_cons _ (.cons _ (.cons _ (.cons _ (.cons _ (.cons _ (.cons _ (.cons _ (.cons_cons _ (.refl _))))))))))⟩) ?_
         refine oQ [oT 0] [(70, vP b57 0), (12, vP b198 0), (7, vP b57 0), (9, vP b150 0), (43, sl A_l l c_l), (44, vI (l.length : Int)), (45, vI i185)] (by kernel_rfl) ?_
         refine ops_load (d := some 71) (an := [.v (vI x187.N), .v (vI x187.Gen)]) (evs := [ld b198 0 (vI x187.N), ld b198 1 (vI x187.Gen)]) (v := .agg #[vI x187.N, vI x187.Gen]) ⟨by kernel_rfl⟩ (fun w_ hM => ⟨hM.cell 0 rfl rfl, hM.cell 0 rfl rfl, rfl⟩) ?_
         refine oQ [oT 3] [(73, vP b150 0), (71, .agg #[vI x187.N, vI x187.Gen]), (70, vP b57 0), (12, vP b198 0), (7, vP b57 0), (9, vP b150 0), (43, sl A_l l c_l), (44, vI (l.length : Int)), (45, vI i185)] (by kernel_rfl) ?_
         refine ops_load (d := some 74) (an := [.v (vI x187.N), .v (vI x187.Gen)]) (evs := [ld b198 0 (vI x187.N), ld b198 1 (vI x187.Gen)]) (v := .agg #[vI x187.N, vI x187.Gen]) ⟨by kernel_rfl⟩ (fun w_ hM => ⟨hM.cell 0 rfl rfl, hM.cell 0 rfl rfl, rfl⟩) ?_
         obtain ⟨x387, hv388, hp⟩ := obind hp
         refine ops_callI (σ := (List Value) × (List Value) × (List Value)) (d := some 72) (f := 43) (args := #[vP b57 0, .agg #[vI x187.N, vI x187.Gen]]) (v := (fun x_ => match x_ with | (y389, y390, y391) => .bool x387)) (I := (fun x_ => match x_ with | (y389, y390, y391) => (RepL (Rep.int .i64) F W l162 y389) ∧ (RepL (Rep.int .u64) F W l167 y390) ∧ (RepL (Rep.int .u64) F W l172 y391))) (M' := (fun x_ => match x_ with | (y389, y390, y391) => Mem w0 (.blk b198 [vI x187.N, vI x187.Gen] 35 :: .blk b57 [sl A160 l162 c161, sl A165 l167 c166, sl A170 l172 c171] 127 :: ow A160 l162 c161 3 1 y389 :: ow A165 l167 c166 52 1 y390 :: ow A170 l172 c171 52 1 y391 :: .blk b150 [sl A175 l177 c176, sl A180 l182 c181] 86 :: ow A175 l177 c176 3 1 y178 :: ow A180 l182 c181 4 1 y183 :: Fz F W :: cs))) ⟨by kernel_rfl⟩ (fun w_ hM hS => (slots_Slots_Alive_ok w0 w_ (.blk b198 [vI x187.N, vI x187.Gen] 35 :: .blk b150 [sl A175 l177 c176, sl A180 l182 c181] 86 :: ow A175 l177 c176 3 1 y178 :: ow A180 l182 c181 4 1 y183 :: cs) F W b57 A160 c161 l162 y163 A165 c166 l167 y168 A170 c171 l172 y173 x187.N x187.Gen (hM.pick 9 [1, 2, 3, 4, 8, 0, 5, 6, 7] (by kernel_rfl) (by decide) rfl) h164 h169 h174 x387 hv388).mono (by rintro e w' ⟨y389, y390, y391, ⟨h392, h393, h394⟩, rfl, h'⟩; have h' : Mem w0 (.blk b198 [vI x187.N, vI x187.Gen] 35 :: .blk b57 [sl A160 l162 c161, sl A165 l167 c166, sl A170 l172 c171] 127 :: ow A160 l162 c161 3 1 y389 :: ow A165 l167 c166 52 1 y390 :: ow A170 l172 c171 52 1 y391 :: .blk b150 [sl A175 l177 c176, sl A180 l182 c181] 86 :: ow A175 l177 c176 3 1 y178 :: ow A180 l182 c181 4 1 y183 :: Fz F W :: cs) w' := (h'.pick 9 [5, 0, 1, 2, 3, 6, 7, 8, 4] (by kernel_rfl) (by decide) rfl); exact ⟨(y389, y390, y391), ⟨h392, h393, h394⟩, rfl, h', (by exact h'.sub (.cons_cons _ (.cons _ (.cons _ (.cons _ (.cons _ (.cons _ (.cons _ (.cons _ (.cons_cons _ (.refl _)))))))))))⟩)) ?_
         rintro ⟨y389, y390, y391⟩ ⟨h392, h393, h394⟩
         obtain ⟨x395, hv396, hp⟩ := obind hp
         refine ops_callI (σ := (List Value) × (List Value)) (d := some 75) (f := 44) (args := #[vP b150 0, .agg #[vI x187.N, vI x187.Gen]]) (v := (fun x_ => match x_ with | (y397, y398) => .bool x395)) (I := (fun x_ => match x_ with | (y397, y398) => (RepL (Rep.int .i64) F W l177 y397) ∧ (RepL Rep.bool F W l182 y398))) (M' := (fun x_ => match x_ with | (y397, y398) => Mem w0 (.blk b198 [vI x187.N, vI x187.Gen] 35 :: .blk b57 [sl A160 l162 c161, sl A165 l167 c166, sl A170 l172 c171] 127 :: ow A160 l162 c161 3 1 y389 :: ow A165 l167 c166 52 1 y390 :: ow A170 l172 c171 52 1 y391 :: .blk b150 [sl A175 l177 c176, sl A180 l182 c181] 86 :: ow A175 l177 c176 3 1 y397 :: ow A180 l182 c181 4 1 y398 :: Fz F W :: cs))) ⟨by kernel_rfl⟩ (fun w_ hM hS => (tourref1_Room_Alive_v2_ok w0 w_ (.blk b198 [vI x187.N, vI x187.Gen] 35 :: .blk b57 [sl A160 l162 c161, sl A165 l167 c166, sl A170 l172 c171] 127 :: ow A160 l162 c161 3 1 y389 :: ow A165 l167 c166 52 1 y390 :: ow A170 l172 c171 52 1 y391 :: cs) F W b150 A175 c176 l177 y178 A180 c181 l182 y183 x187.N x187.Gen (hM.pick 9 [5, 6, 7, 8, 0, 1, 2, 3, 4] (by kernel_rfl) (by decide) rfl) h179 h184 x395 hv396).mono (by rintro e w' ⟨y397, y398, ⟨h399, h400⟩, rfl, h'⟩; have h' : Mem w0 (.blk b198 [vI x187.N, vI x187.Gen] 35 :: .blk b57 [sl A160 l162 c161, sl A165 l167 c166, sl A170 l172 c171] 127 :: ow A160 l162 c161 3 1 y389 :: ow A165 l167 c166 52 1 y390 :: ow A170 l172 c171 52 1 y391 :: .blk b150 [sl A175 l177 c176, sl A180 l182 c181] 86 :: ow A175 l177 c176 3 1 y397 :: ow A180 l182 c181 4 1 y398 :: Fz F W :: cs) w' := (h'.pick 9 [4, 5, 6, 7, 8, 0, 1, 2, 3] (by kernel_rfl) (by decide) rfl); exact ⟨(y397, y398), ⟨h399, h400⟩, rfl, h', (by exact h'.sub (.cons_cons _ (.cons _ (.cons _ (.cons _ (.cons _ (.cons _ (.cons _ (.cons _ (.cons_cons _ (.refl _)))))))))))⟩)) ?_
         rintro ⟨y397, y398⟩ ⟨h399, h400⟩
         refine oQ [oT 6, oT 7] [(77, .bool (!(x387 == x395))), (12, vP b198 0), (7, vP b57 0), (9, vP b150 0), (43, sl A_l l c_l), (44, vI (l.length : Int)), (45, vI i185)] (by kernel_rfl) ?_
         refine ops_bool (t := !(x387 == x395)) (l1 := [(77, .bool true), (12, vP b198 0), (7, vP b57 0), (9, vP b150 0), (43, sl A_l l c_l), (44, vI (l.length : Int)), (45, vI i185)]) (l2 := [(77, .bool false), (12, vP b198 0), (7, vP b57 0), (9, vP b150 0), (43, sl A_l l c_l), (44, vI (l.length : Int)), (45, vI i185)]) (fun h => by rw [h]) (fun h => by rw [h]) (fun hc401 => ?_) (fun hc401 => ?_)
         ·
          have hp := cnd_t hc401 hp
          refine oQ [oT 8, oT 9, oT 11, oT 12, oF 10, oF 13, oT 14, oT 15] [(85, .bool true), (7, vP b57 0), (9, vP b150 0), (43, sl A_l l c_l), (44, vI (l.length : Int)), (45, vI i185)] (by kernel_rfl) ?_
          refine ops_nil (fin_then (st_true rfl (st_seq (st_region [oF 0] (by rfl) ?_))))
          refine oQ [oF 0] [(6, .bool false)] (by kernel_rfl) ?_
          refine ops_nil (fin_then (st_ret (fin_ret_then (fin_ret_block (fin_ret_then (fin_ret_then (fin_ret_block (fin_ret_then ?_))))))))
          obtain hq_ := Option.some.inj hp
          subst hq_
          obtain hq_ := hd8 _ rfl
          subst hq_
          have hp : some false = some t9001 := hk8
          have hq_ := Option.some.inj hp
          have hr0_ := hq_
          subst hr0_
          refine fin_ret [.tmp 6] [.bool false] rfl rfl (fun w_ hM => (.tmp rfl .nil)) (fun w_ hM => ?_)
          exact ⟨trivial, rfl, hM.pick 9 [8] (by kernel_rfl) (by decide) rfl⟩
         ·
          have hp := cnd_f hc401 hp
          refine oQ [oT 8] [(78, vP b57 0), (77, .bool false), (12, vP b198 0), (7, vP b57 0), (9, vP b150 0), (43, sl A_l l c_l), (44, vI (l.length : Int)), (45, vI i185)] (by kernel_rfl) ?_
          refine ops_load (d := some 79) (an := [.v (vI x187.N), .v (vI x187.Gen)]) (evs := [ld b198 0 (vI x187.N), ld b198 1 (vI x187.Gen)]) (v := .agg #[vI x187.N, vI x187.Gen]) ⟨by kernel_rfl⟩ (fun w_ hM => ⟨hM.cell 0 rfl rfl, hM.cell 0 rfl rfl, rfl⟩) ?_
          refine oQ [oT 11] [(81, vP b150 0), (79, .agg #[vI x187.N, vI x187.Gen]), (78, vP b57 0), (77, .bool false), (12, vP b198 0), (7, vP b57 0), (9, vP b150 0), (43, sl A_l l c_l), (44, vI (l.length : Int)), (45, vI i185)] (by kernel_rfl) ?_
          refine ops_load (d := some 82) (an := [.v (vI x187.N), .v (vI x187.Gen)]) (evs := [ld b198 0 (vI x187.N), ld b198 1 (vI x187.Gen)]) (v := .agg #[vI x187.N, vI x187.Gen]) ⟨by kernel_rfl⟩ (fun w_ hM => ⟨hM.cell 0 rfl rfl, hM.cell 0 rfl rfl, rfl⟩) ?_
          obtain ⟨x402, x403, x404, x405, hv406, hp⟩ := obind4 hp
          refine ops_callI (σ := (List Value) × (Option Addr) × Nat × (List Value) × (Option Addr) × Nat × (List Value)) (d := some 80) (f := 45) (args := #[vP b57 0, .agg #[vI x187.N, vI x187.Gen]]) (v := (fun x_ => match x_ with | (y407, A408, c409, y410, A411, c412, y413) => vI x402)) (I := (fun x_ => match x_ with | (y407, A408, c409, y410, A411, c412, y413) => (RepL (Rep.int .i64) F W x403 y407) ∧ (RepL (Rep.int .u64) F W x404 y410) ∧ (RepL (Rep.int .u64) F W x405 y413))) (M' := (fun x_ => match x_ with | (y407, A408, c409, y410, A411, c412, y413) => Mem w0 (ow A408 x404 c409 52 1 y410 :: ow A411 x405 c412 52 1 y413 :: .blk b198 [vI x187.N, vI x187.Gen] 35 :: .blk b57 [sl A160 x403 c161, sl A408 x404 c409, sl A411 x405 c412] 127 :: ow A160 x403 c161 3 1 y407 :: .blk b150 [sl A175 l177 c176, sl A180 l182 c181] 86 :: ow A175 l177 c176 3 1 y397 :: ow A180 l182 c181 4 1 y398 :: Fz F W :: cs))) ⟨by kernel_rfl⟩ (fun w_ hM hS => (slots_Slots_Free_ok w0 w_ (.blk b198 [vI x187.N, vI x187.Gen] 35 :: .blk b150 [sl A175 l177 c176, sl A180 l182 c181] 86 :: ow A175 l177 c176 3 1 y397 :: ow A180 l182 c181 4 1 y398 :: cs) F W b57 A160 c161 l162 y389 A165 c166 l167 y390 A170 c171 l172 y391 x187.N x187.Gen (hM.pick 9 [1, 2, 3, 4, 8, 0, 5, 6, 7] (by kernel_rfl) (by decide) rfl) h392 h393 h394 x402 x403 x404 x405 hv406).mono (by rintro e w' ⟨y407, A408, c409, y410, A411, c412, y413, ⟨h414, h415, h416⟩, rfl, h'⟩; have h' : Mem w0 (ow A408 x404 c409 52 1 y410 :: ow A411 x405 c412 52 1 y413 :: .blk b198 [vI x187.N, vI x187.Gen] 35 :: .blk b57 [sl A160 x403 c161, sl A408 x404 c409, sl A411 x405 c412] 127 :: ow A160 x403 c161 3 1 y407 :: .blk b150 [sl A175 l177 c176, sl A180 l182 c181] 86 :: ow A175 l177 c176 3 1 y397 :: ow A180 l182 c181 4 1 y398 :: Fz F W :: cs) w' := (h'.pick 9 [2, 3, 5, 0, 1, 6, 7, 8, 4] (by kernel_rfl) (by decide) rfl); exact ⟨(y407, A408, c409, y410, A411, c412, y413), ⟨h414, h415, h416⟩, rfl, h', (by exact h'.sub (.cons _ (.cons _ (.cons_cons _ (.cons _ (.cons _ (.cons _ (.cons _ (.cons _ (.cons_cons _ (.refl _)))))))))))⟩)) ?_
          rintro ⟨y407, A408, c409, y410, A411, c412, y413⟩ ⟨h414, h415, h416⟩
          obtain ⟨x417, x418, x419, hv420, hp⟩ := obind3 hp
          refine ops_callI (σ := (List Value) × (List Value)) (d := some 83) (f := 46) (args := #[vP b150 0, .agg #[vI x187.N, vI x187.Gen]]) (v := (fun x_ => match x_ with | (y421, y422) => vI x417)) (I := (fun x_ => match x_ with | (y421, y422) => (RepL (Rep.int .i64) F W x418 y421) ∧ (RepL Rep.bool F W x419 y422))) (M' := (fun x_ => match x_ with | (y421, y422) => Mem w0 (ow A408 x404 c409 52 1 y410 :: ow A411 x405 c412 52 1 y413 :: .blk b198 [vI x187.N, vI x187.Gen] 35 :: .blk b57 [sl A160 x403 c161, sl A408 x404 c409, sl A411 x405 c412] 127 :: ow A160 x403 c161 3 1 y407 :: .blk b150 [sl A175 x418 c176, sl A180 x419 c181] 86 :: ow A175 x418 c176 3 1 y421 :: ow A180 x419 c181 4 1 y422 :: Fz F W :: cs))) ⟨by kernel_rfl⟩ (fun w_ hM hS => (tourref1_Room_Free_v2_ok w0 w_ (ow A408 x404 c409 52 1 y410 :: ow A411 x405 c412 52 1 y413 :: .blk b198 [vI x187.N, vI x187.Gen] 35 :: .blk b57 [sl A160 x403 c161, sl A408 x404 c409, sl A411 x405 c412] 127 :: ow A160 x403 c161 3 1 y407 :: cs) F W b150 A175 c176 l177 y397 A180 c181 l182 y398 x187.N x187.Gen (hM.pick 9 [5, 6, 7, 8, 0, 1, 2, 3, 4] (by kernel_rfl) (by decide) rfl) h399 h400 x417 x418 x419 hv420).mono (by rintro e w' ⟨y421, y422, ⟨h423, h424⟩, rfl, h'⟩; have h' : Mem w0 (ow A408 x404 c409 52 1 y410 :: ow A411 x405 c412 52 1 y413 :: .blk b198 [vI x187.N, vI x187.Gen] 35 :: .blk b57 [sl A160 x403 c161, sl A408 x404 c409, sl A411 x405 c412] 127 :: ow A160 x403 c161 3 1 y407 :: .blk b150 [sl A175 x418 c176, sl A180 x419 c181] 86 :: ow A175 x418 c176 3 1 y421 :: ow A180 x419 c181 4 1 y422 :: Fz F W :: cs) w' := (h'.pick 9 [4, 5, 6, 7, 8, 0, 1, 2, 3] (by kernel_rfl) (by decide) rfl); exact ⟨(y421, y422), ⟨h423, h424⟩, rfl, h', (by exact h'.sub (.cons _ (.cons _ (.cons_cons _ (.cons _ (.cons _ (.cons _ (.cons _ (.cons _ (.cons_cons _ (.refl _)))))))))))⟩)) ?_
          rintro ⟨y421, y422⟩ ⟨h423, h424⟩
          refine oQ [oT 14, oT 15] [(85, .bool (!(x402 == x417))), (7, vP b57 0), (9, vP b150 0), (43, sl A_l l c_l), (44, vI (l.length : Int)), (45, vI i185)] (by kernel_rfl) ?_
          refine ops_nil (fin_then ?_)
          refine st_if (b := !(x402 == x417)) rfl (fun hc425 => ?_) (fun hc425 => ?_)
          ·
           have hp := cnd_t hc425 hp
           refine st_seq (st_region [oF 0] (by rfl) ?_)
           refine oQ [oF 0] [(6, .bool false)] (by kernel_rfl) ?_
           refine ops_nil (fin_then (st_ret (fin_ret_then (fin_ret_block (fin_ret_then (fin_ret_then (fin_ret_block (fin_ret_then ?_))))))))
           obtain hq_ := Option.some.inj hp
           subst hq_
           obtain hq_ := hd8 _ rfl
           subst hq_
           have hp : some false = some t9001 := hk8
           have hq_ := Option.some.inj hp
           have hr0_ := hq_
           subst hr0_
           refine fin_ret [.tmp 6] [.bool false] rfl rfl (fun w_ hM => (.tmp rfl .nil)) (fun w_ hM => ?_)
           exact ⟨trivial, rfl, hM.pick 9 [8] (by kernel_rfl) (by decide) rfl⟩
          ·
           have hp := cnd_f hc425 hp
           refine st_skip ?_
           exact fin_join HJ9 (A160, c161, x403, y407, A408, c409, x404, y410, A411, c412, x405, y413, A175, c176, x418, y421, A180, c181, x419, y422) ⟨hp, h414, h415, h416, h423, h424⟩ (look_has ⟨rfl, rfl, rfl, rfl, rfl, trivial⟩) (fun w_ hM => hM.pick 9 [3, 4, 0, 1, 5, 6, 7, 8] (by kernel_rfl) (by decide) rfl)
      ·
       have hp := cnd_f hc186 hp
       refine st_exit (fin_exit_then (fin_exit_then (fin_exit ?_)))
       obtain hq_ := Option.some.inj hp
       subst hq_
       obtain hq_ := hd8 _ rfl
       subst hq_
       have hp : tourlaw1_SlotsPlays_j7 = some t9001 := hk8
       exact fin_join HJ7 () hp (look_has trivial) (fun w_ hM => hM.pick 8 [7] (by kernel_rfl) (by decide) rfl)
end Go.Proofs.Ythcniadbdjoecaa.R
