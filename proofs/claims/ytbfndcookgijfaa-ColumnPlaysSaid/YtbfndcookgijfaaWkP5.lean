/- The Go functions come to what the plain functions tell. No condition. -/
import Derived.Test.YtbfndcookgijfaaProg
import Derived.Test.YtbfndcookgijfaaFnP
import Derived.Test.YtbfndcookgijfaaExSq
import Derived.Test.YtbfndcookgijfaaExRf
import Derived.Test.YtbfndcookgijfaaWkP1
import Derived.Test.YtbfndcookgijfaaWkP4
import Derived.Test.YtbfndcookgijfaaExMap
namespace Go.Proofs.Ytbfndcookgijfaa.P
open Go Go.RowKit Go.Proofs.Ytbfndcookgijfaa.Sx
set_option linter.unusedVariables false
set_option maxHeartbeats 4000000
set_option maxRecDepth 100000
variable {w0 w : World} {cs : List Chunk} {F : Nat → Prop} {W : World}
def tourlaw3_agrees__t0 : List Row := [⟨0, 8192, 1⟩, ⟨1, 16384, 8192⟩, ⟨0, 32768, 16⟩, ⟨4, 65536, 32768⟩, ⟨8, 131072, 65536⟩, ⟨16, 262144, 131072⟩, ⟨32, 524288, 262144⟩, ⟨66, 1048576, 540672⟩, ⟨130, 2097152, 1048576⟩, ⟨256, 4194304, 2097153⟩, ⟨768, 8388608, 6291456⟩, ⟨256, 16777216, 2097168⟩, ⟨2304, 33554432, 18874368⟩, ⟨4352, 67108864, 35651584⟩, ⟨8448, 134217728, 69206016⟩, ⟨17664, 268435456, 144703488⟩, ⟨33024, 536870912, 270532608⟩, ⟨65792, 1073741824, 538968064⟩, ⟨163840, 2147483648, 1073741824⟩, ⟨262144, 4294967296, 2147483649⟩, ⟨262144, 8589934592, 2147483652⟩, ⟨1835008, 17179869184, 15032385536⟩, ⟨262144, 34359738368, 2147483664⟩, ⟨4456448, 68719476736, 36507222016⟩, ⟨8650752, 137438953472, 70866960384⟩, ⟨17039360, 274877906944, 139586437120⟩, ⟨262144, 549755813888, 2147483652⟩, ⟨103022592, 1099511627776, 826781204480⟩, ⟨136577024, 2199023255552, 1118838980608⟩, ⟨268697600, 4398046511104, 2201170739200⟩]
def tourlaw3_agrees__t1 : List Row := [⟨0, 38685626227668133590597632, 1024⟩, ⟨0, 77371252455336267181195264, 16⟩, ⟨2, 154742504910672534362390528, 77371252455336267181195264⟩, ⟨4, 309485009821345068724781056, 154742504910672534362390528⟩, ⟨8, 618970019642690137449562112, 309485009821345068724781056⟩, ⟨16, 1237940039285380274899124224, 618970019642690137449562112⟩, ⟨33, 2475880078570760549798248448, 1276625665513048408489721856⟩, ⟨64, 4951760157141521099596496896, 2475880078570760549798248448⟩, ⟨128, 9903520314283042199192993792, 4951760157141521099596498944⟩, ⟨128, 19807040628566084398385987584, 4951760157141521099596496912⟩, ⟨640, 39614081257132168796771975168, 24758800785707605497982484480⟩, ⟨1152, 79228162514264337593543950336, 44565841414273689896368472064⟩, ⟨2176, 158456325028528675187087900672, 84179922671405858693140447232⟩, ⟨128, 316912650057057350374175801344, 4951760157141521099596497920⟩, ⟨12416, 633825300114114700748351602688, 480320735242727546660860198912⟩, ⟨16512, 1267650600228229401496703205376, 638777060271256221847948099584⟩, ⟨33152, 2535301200456458802993406410752, 1282505880699653964795492696064⟩, ⟨65664, 5070602400912917605986812821504, 2540252960613600324093002907648⟩, ⟨131200, 10141204801825835211973625643008, 5070602400912917605986812821504⟩, ⟨262144, 20282409603651670423947251286016, 10141204801825835211973625647104⟩, ⟨262144, 40564819207303340847894502572032, 10141204801825835211973625643024⟩, ⟨1310720, 81129638414606681695789005144064, 50706024009129176059868128215040⟩, ⟨2359296, 162259276829213363391578010288128, 91270843216432516907762630787072⟩, ⟨4456448, 324518553658426726783156020576256, 172400481631039198603551635931136⟩, ⟨262144, 649037107316853453566312041152512, 10141204801825835211973625644032⟩, ⟨25427968, 1298074214633706907132624082305024, 983696865777106015561441687371776⟩, ⟨33816576, 2596148429267413814265248164610048, 1308215419435532742344597707948032⟩, ⟨67895296, 5192296858534827628530496329220096, 2626572043672891319901169041539072⟩, ⟨134479872, 10384593717069655257060992658440192, 5202438063336653463742469954863104⟩]
theorem tourlaw3_agrees_ok {t : Nat} {k : Option Addr} {p : Nat} {A : List Int} {bq : List Value} {m : Option Addr} {q : Nat} {B : List Int} {br : List Value} {o : Nat} {bg : Array MapEntry} {be : Nat} {a5 : List (Int × Int)} {s : Nat} {g : Option Addr} {a : Nat} {r : List Int} {x : List Value} {j : Option Addr} {i : Nat} {u : List Int} {y : List Value} {n : Int} (ek : Mem w0 (.blk t [sl k A p, sl m B q, .map (some o)] 44 :: ow k A p 3 1 bq :: ow m B q 3 1 br :: .obj o (.map bg be) :: .blk s [sl g r a, sl j u i] 28 :: ow g r a 3 1 x :: ow j u i 3 1 y :: Fz F W :: cs) w) (db : RepL (Rep.int .i64) F W A bq) (dc : RepL (Rep.int .i64) F W B br) (dd : MapOK (fun U : Int => Value.int .i64 U) (Rep.int .i64) false F W a5 bg be) (X : RepL (Rep.int .i64) F W r x) (ab : RepL (Rep.int .i64) F W u y) {au : Bool} (D : tourlaw3_agrees A B a5 r u n = some au) : Calls Try.prog 12 #[vP t 0, vP s 0, vI n] w (Post w0 (fun ((bm, bn, bf, bd, bo, bp) : (List Value) × (List Value) × (Array MapEntry) × Nat × (List Value) × (List Value)) => (RepL (Rep.int .i64) F W A bm) ∧ (RepL (Rep.int .i64) F W B bn) ∧ (MapOK (fun U : Int => Value.int .i64 U) (Rep.int .i64) false F W a5 bf bd) ∧ (RepL (Rep.int .i64) F W r bo) ∧ (RepL (Rep.int .i64) F W u bp)) (fun (bm, bn, bf, bd, bo, bp) => .bool au) (fun (bm, bn, bf, bd, bo, bp) => .blk t [sl k A p, sl m B q, .map (some o)] 44 :: ow k A p 3 1 bm :: ow m B q 3 1 bn :: .obj o (.map bf bd) :: .blk s [sl g r a, sl j u i] 28 :: ow g r a 3 1 bo :: ow j u i 3 1 bp :: Fz F W :: cs)) := by
 unfold tourlaw3_agrees at D
 refine sx_callsM Try.func12 rfl (n := 123) (by kernel_rfl) (l := [(0, vP t 0), (1, vP s 0), (2, vI n)]) rfl (by rfl) ek ?_
 refine st_seq (st_region [oF 0, oF 1] (by rfl) ?_)
 refine oN 4 [vP s 0] 26 (fun G => ?_)
 refine oN 6 [.bool false] 4 (fun E => ?_)
 refine ops_nil (fin_then (st_seq (st_seq ?_)))
 refine st_region_fast tourlaw3_agrees__t0 [oT 0, oT 2, oT 3, oT 4, oT 5, oT 6, oF 1, oT 7, oT 8, oT 9, oT 11, oT 12, oT 13, oT 14, oF 10, oF 15, oT 16, oT 17, oT 18, oT 19, oT 20, oT 22, oT 23, oT 24, oT 25, oT 26, oF 21, oF 27, oT 28, oT 29] (Mem w0 (.blk E [.bool false] 4 :: .blk G [vP s 0] 26 :: .blk s [sl g r a, sl j u i] 28 :: ow g r a 3 1 x :: ow j u i 3 1 y :: Fz F W :: cs)) (by kernel_rfl) (by kernel_rfl) (by kernel_rfl) (by kernel_rfl) (by kernel_rfl) (fun _ d _ _ _ h => by cases d <;> exact h) (M' := Mem w0 (.blk E [.bool false] 4 :: .blk G [vP s 0] 26 :: .blk t [sl k A p, sl m B q, .map (some o)] 44 :: ow k A p 3 1 bq :: ow m B q 3 1 br :: .obj o (.map bg be) :: .blk s [sl g r a, sl j u i] 28 :: ow g r a 3 1 x :: ow j u i 3 1 y :: Fz F W :: cs)) (fun H C => ⟨C.drew, C.drew.sub (.cons_cons _ (.cons_cons _ (.cons _ (.cons _ (.cons _ (.cons _ (.cons_cons _ (.cons_cons _ (.cons_cons _ (.cons_cons _ (.refl _)))))))))))⟩) ?_
 refine oq [oT 0] [(13, vP t 0), (6, vP E 0), (4, vP G 0), (0, vP t 0), (2, vI n)] ?_
 refine oL 15 1 0 ?_
 refine oq [oT 3, oT 4] [(17, vP s 0), (13, vP t 0), (6, vP E 0), (4, vP G 0), (0, vP t 0), (2, vI n)] ?_
 refine oL 18 2 0 ?_
 refine oq [oT 6] [(19, vI (r.length : Int)), (13, vP t 0), (6, vP E 0), (4, vP G 0), (0, vP t 0), (2, vI n)] ?_
 obtain ⟨x3, em, D⟩ := obind D
 refine ops_callI (σ := (List Value) × (List Value) × (Array MapEntry) × Nat) (d := some 14) (f := 23) (args := #[vP t 0]) (v := (fun U => match U with | (y5, y6, a4, a2) => vI x3)) (I := (fun U => match U with | (y5, y6, a4, a2) => (RepL (Rep.int .i64) F W A y5) ∧ (RepL (Rep.int .i64) F W B y6) ∧ (MapOK (fun U : Int => Value.int .i64 U) (Rep.int .i64) false F W a5 a4 a2))) (M' := (fun U => match U with | (y5, y6, a4, a2) => Mem w0 (.blk E [.bool false] 4 :: .blk G [vP s 0] 26 :: .blk t [sl k A p, sl m B q, .map (some o)] 44 :: ow k A p 3 1 y5 :: ow m B q 3 1 y6 :: .obj o (.map a4 a2) :: .blk s [sl g r a, sl j u i] 28 :: ow g r a 3 1 x :: ow j u i 3 1 y :: Fz F W :: cs))) ⟨by kernel_rfl⟩ (fun H C hS => (@column_Store_int_Len_ok w0 H (.blk E [.bool false] 4 :: .blk G [vP s 0] 26 :: .blk s [sl g r a, sl j u i] 28 :: ow g r a 3 1 x :: ow j u i 3 1 y :: cs) F W t k p A bq m q B br o bg be a5 (C.pick 10 [2, 3, 4, 5, 9, 0, 1, 6, 7, 8] (by kernel_rfl) (by decide) rfl) db dc dd x3 em).mono (by rintro e w' ⟨⟨y5, y6, a4, a2⟩, ⟨h9, ca, cb⟩, rfl, h'⟩; have h' : Mem w0 (.blk E [.bool false] 4 :: .blk G [vP s 0] 26 :: .blk t [sl k A p, sl m B q, .map (some o)] 44 :: ow k A p 3 1 y5 :: ow m B q 3 1 y6 :: .obj o (.map a4 a2) :: .blk s [sl g r a, sl j u i] 28 :: ow g r a 3 1 x :: ow j u i 3 1 y :: Fz F W :: cs) w' := (h'.pick 10 [5, 6, 0, 1, 2, 3, 7, 8, 9, 4] (by kernel_rfl) (by decide) rfl); exact ⟨(y5, y6, a4, a2), ⟨h9, ca, cb⟩, rfl, h', (by exact h'.sub (.cons_cons _ (.cons_cons _ (.cons _ (.cons _ (.cons _ (.cons _ (.cons_cons _ (.cons_cons _ (.cons_cons _ (.cons_cons _ (.refl _))))))))))))⟩)) ?_
 rintro ⟨y5, y6, a4, a2⟩ ⟨h9, ca, cb⟩
 refine oq [oT 7, oT 8] [(21, .bool (!(x3 == (r.length : Int)))), (6, vP E 0), (4, vP G 0), (0, vP t 0), (2, vI n)] ?_
 refine ob D [21] (fun dy D => ?_) (fun dy D => ?_)
 ·
  refine oq [oT 9, oT 11, oT 12, oT 13, oT 14, oF 10, oF 15, oT 16, oT 17, oT 18, oT 19, oT 20, oT 22, oT 23, oT 24, oT 25, oT 26, oF 21, oF 27, oT 28, oT 29] [(42, .bool true), (6, vP E 0), (4, vP G 0), (0, vP t 0), (2, vI n)] ?_
  refine ops_nil (fin_then (st_true rfl (st_seq (st_region [oF 0] (by rfl) ?_))))
  refine oS 0 0 [.bool false] ?_
  refine ops_nil (fin_then (st_ret (fin_ret_then ?_)))
  refine fin_outs rfl ?_
  refine outs_conv (M' := Mem w0 (.blk E [.bool false] 4 :: .blk G [vP s 0] 26 :: .blk t [sl k A p, sl m B q, .map (some o)] 44 :: ow k A p 3 1 y5 :: ow m B q 3 1 y6 :: .obj o (.map a4 a2) :: .blk s [sl g r a, sl j u i] 28 :: ow g r a 3 1 x :: ow j u i 3 1 y :: Fz F W :: cs)) (fun _ h => h) ?_
  obtain rfl := Option.some.inj D
  refine outs_nil [.cell 6 4] [.bool false] rfl (fun H C => (.cell rfl (tr_run _ [.v (.bool false)] [ld E 0 (.bool false)] (.bool false : Value) _ _ (by kernel_rfl) ⟨C.cell 0 rfl rfl, rfl⟩) .nil)) (fun H C => ?_)
  exact ⟨(y5, y6, a4, a2, x, y), ⟨h9, ca, cb, X, ab⟩, rfl, C.pick 10 [2, 3, 4, 5, 6, 7, 8, 9] (by kernel_rfl) (by decide) rfl⟩
 ·
  refine oq [oT 9] [(22, vP t 0), (21, .bool false), (6, vP E 0), (4, vP G 0), (0, vP t 0), (2, vI n)] ?_
  refine oL 24 1 0 ?_
  refine oq [oT 12, oT 13] [(26, vP s 0), (22, vP t 0), (21, .bool false), (6, vP E 0), (4, vP G 0), (0, vP t 0), (2, vI n)] ?_
  refine oL 27 2 0 ?_
  obtain ⟨ae, d5, D⟩ := obind D
  refine ops_callI (σ := (Option Addr) × Nat × (List Value) × (List Value) × (List Value) × (Array MapEntry) × Nat) (d := some 23) (f := 18) (args := #[vP t 0]) (v := (fun U => match U with | (Z, aa, ad, ay, az, aj, ai) => sl Z ae aa)) (I := (fun U => match U with | (Z, aa, ad, ay, az, aj, ai) => (RepL (Rep.int .i64) F W ae ad) ∧ (RepL (Rep.int .i64) F W A ay) ∧ (RepL (Rep.int .i64) F W B az) ∧ (MapOK (fun U : Int => Value.int .i64 U) (Rep.int .i64) false F W a5 aj ai))) (M' := (fun U => match U with | (Z, aa, ad, ay, az, aj, ai) => Mem w0 (ow Z ae aa 3 1 ad :: .blk E [.bool false] 4 :: .blk G [vP s 0] 26 :: .blk t [sl k A p, sl m B q, .map (some o)] 44 :: ow k A p 3 1 ay :: ow m B q 3 1 az :: .obj o (.map aj ai) :: .blk s [sl g r a, sl j u i] 28 :: ow g r a 3 1 x :: ow j u i 3 1 y :: Fz F W :: cs))) ⟨by kernel_rfl⟩ (fun H C hS => (@column_Store_int_Rows_ok w0 H (.blk E [.bool false] 4 :: .blk G [vP s 0] 26 :: .blk s [sl g r a, sl j u i] 28 :: ow g r a 3 1 x :: ow j u i 3 1 y :: cs) F W t k p A y5 m q B y6 o a4 a2 a5 (C.pick 10 [2, 3, 4, 5, 9, 0, 1, 6, 7, 8] (by kernel_rfl) (by decide) rfl) h9 ca cb ae d5).mono (by rintro e w' ⟨⟨Z, aa, ad, ay, az, aj, ai⟩, ⟨c1, cc, cd, ce⟩, rfl, h'⟩; have h' : Mem w0 (ow Z ae aa 3 1 ad :: .blk E [.bool false] 4 :: .blk G [vP s 0] 26 :: .blk t [sl k A p, sl m B q, .map (some o)] 44 :: ow k A p 3 1 ay :: ow m B q 3 1 az :: .obj o (.map aj ai) :: .blk s [sl g r a, sl j u i] 28 :: ow g r a 3 1 x :: ow j u i 3 1 y :: Fz F W :: cs) w' := (h'.pick 11 [0, 6, 7, 1, 2, 3, 4, 8, 9, 10, 5] (by kernel_rfl) (by decide) rfl); exact ⟨(Z, aa, ad, ay, az, aj, ai), ⟨c1, cc, cd, ce⟩, rfl, h', (by exact h'.sub (.cons _ (.cons_cons _ (.cons_cons _ (.cons _ (.cons _ (.cons _ (.cons _ (.cons_cons _ (.cons_cons _ (.cons_cons _ (.cons_cons _ (.refl _)))))))))))))⟩)) ?_
  rintro ⟨Z, aa, ad, ay, az, aj, ai⟩ ⟨c1, cc, cd, ce⟩
  obtain ⟨c7, d6, D⟩ := obind D
  refine ops_callI (σ := Unit) (d := some 28) (f := 15) (args := #[sl Z ae aa, sl g r a]) (v := (fun _ => .bool c7)) (I := (fun _ => True)) (M' := (fun _ => Mem w0 (ow Z ae aa 3 1 ad :: .blk E [.bool false] 4 :: .blk G [vP s 0] 26 :: .blk t [sl k A p, sl m B q, .map (some o)] 44 :: ow k A p 3 1 ay :: ow m B q 3 1 az :: .obj o (.map aj ai) :: .blk s [sl g r a, sl j u i] 28 :: ow g r a 3 1 x :: ow j u i 3 1 y :: Fz F W :: cs))) ⟨by kernel_rfl⟩ (fun H C hS => (@slices_Equal_int_int_ok H H [] (fun b => b < H.heap.size) H Z aa ae g a r (Mem.fz0 H) (C.ordS 0 10 rfl rfl c1 rfl rfl) (C.ordS 8 10 rfl rfl X rfl rfl) c7 d6).mono (by rintro e w' ⟨_, -, rfl, h'⟩; have h' : Mem H [] w' := h'.pick 1 [] (by kernel_rfl) (by decide) rfl; exact ⟨(), trivial, rfl, C.join h' rfl, (hS.step h'.below)⟩)) ?_
  rintro _ -
  refine oq (oTs 16 3) [(31, .bool (!c7)), (6, vP E 0), (4, vP G 0), (0, vP t 0), (2, vI n)] ?_
  refine ob D [31] (fun dz D => ?_) (fun dz D => ?_)
  ·
   refine oq [oT 19, oT 20, oT 22, oT 23, oT 24, oT 25, oT 26, oF 21, oF 27, oT 28, oT 29] [(42, .bool true), (6, vP E 0), (4, vP G 0), (0, vP t 0), (2, vI n)] ?_
   refine ops_nil (fin_then (st_true rfl (st_seq (st_region [oF 0] (by rfl) ?_))))
   refine oS 1 0 [.bool false] ?_
   refine ops_nil (fin_then (st_ret (fin_ret_then ?_)))
   refine fin_outs rfl ?_
   refine outs_conv (M' := Mem w0 (ow Z ae aa 3 1 ad :: .blk E [.bool false] 4 :: .blk G [vP s 0] 26 :: .blk t [sl k A p, sl m B q, .map (some o)] 44 :: ow k A p 3 1 ay :: ow m B q 3 1 az :: .obj o (.map aj ai) :: .blk s [sl g r a, sl j u i] 28 :: ow g r a 3 1 x :: ow j u i 3 1 y :: Fz F W :: cs)) (fun _ h => h) ?_
   obtain rfl := Option.some.inj D
   refine outs_nil [.cell 6 4] [.bool false] rfl (fun H C => (.cell rfl (tr_run _ [.v (.bool false)] [ld E 0 (.bool false)] (.bool false : Value) _ _ (by kernel_rfl) ⟨C.cell 1 rfl rfl, rfl⟩) .nil)) (fun H C => ?_)
   exact ⟨(ay, az, aj, ai, x, y), ⟨cc, cd, ce, X, ab⟩, rfl, C.pick 11 [3, 4, 5, 6, 7, 8, 9, 10] (by kernel_rfl) (by decide) rfl⟩
  ·
   refine oq [oT 19, oT 20] [(33, vI n), (32, vP t 0), (31, .bool false), (6, vP E 0), (4, vP G 0), (0, vP t 0), (2, vI n)] ?_
   refine oL 35 1 0 ?_
   refine oq [oT 23, oT 24] [(37, vP s 0), (33, vI n), (32, vP t 0), (31, .bool false), (6, vP E 0), (4, vP G 0), (0, vP t 0), (2, vI n)] ?_
   refine oL 38 2 0 ?_
   refine oq [oT 26] [(39, vI n), (38, sl g r a), (33, vI n), (32, vP t 0), (31, .bool false), (6, vP E 0), (4, vP G 0), (0, vP t 0), (2, vI n)] ?_
   obtain ⟨c8, d7, D⟩ := obind D
   refine ops_callI (σ := (List Value) × (List Value) × (Array MapEntry) × Nat) (d := some 34) (f := 24) (args := #[vP t 0, vI n]) (v := (fun U => match U with | (a6, a7, ap, am) => vI c8)) (I := (fun U => match U with | (a6, a7, ap, am) => (RepL (Rep.int .i64) F W A a6) ∧ (RepL (Rep.int .i64) F W B a7) ∧ (MapOK (fun U : Int => Value.int .i64 U) (Rep.int .i64) false F W a5 ap am))) (M' := (fun U => match U with | (a6, a7, ap, am) => Mem w0 (ow Z ae aa 3 1 ad :: .blk E [.bool false] 4 :: .blk G [vP s 0] 26 :: .blk t [sl k A p, sl m B q, .map (some o)] 44 :: ow k A p 3 1 a6 :: ow m B q 3 1 a7 :: .obj o (.map ap am) :: .blk s [sl g r a, sl j u i] 28 :: ow g r a 3 1 x :: ow j u i 3 1 y :: Fz F W :: cs))) ⟨by kernel_rfl⟩ (fun H C hS => (@column_Store_int_Row_ok w0 H (ow Z ae aa 3 1 ad :: .blk E [.bool false] 4 :: .blk G [vP s 0] 26 :: .blk s [sl g r a, sl j u i] 28 :: ow g r a 3 1 x :: ow j u i 3 1 y :: cs) F W t k p A ay m q B az o aj ai a5 n (C.pick 11 [3, 4, 5, 6, 10, 0, 1, 2, 7, 8, 9] (by kernel_rfl) (by decide) rfl) cc cd ce c8 d7).mono (by rintro e w' ⟨⟨a6, a7, ap, am⟩, ⟨cf, cg, ch⟩, rfl, h'⟩; have h' : Mem w0 (ow Z ae aa 3 1 ad :: .blk E [.bool false] 4 :: .blk G [vP s 0] 26 :: .blk t [sl k A p, sl m B q, .map (some o)] 44 :: ow k A p 3 1 a6 :: ow m B q 3 1 a7 :: .obj o (.map ap am) :: .blk s [sl g r a, sl j u i] 28 :: ow g r a 3 1 x :: ow j u i 3 1 y :: Fz F W :: cs) w' := (h'.pick 11 [5, 6, 7, 0, 1, 2, 3, 8, 9, 10, 4] (by kernel_rfl) (by decide) rfl); exact ⟨(a6, a7, ap, am), ⟨cf, cg, ch⟩, rfl, h', (by exact h'.sub (.cons _ (.cons_cons _ (.cons_cons _ (.cons _ (.cons _ (.cons _ (.cons _ (.cons_cons _ (.cons_cons _ (.cons_cons _ (.cons_cons _ (.refl _)))))))))))))⟩)) ?_
   rintro ⟨a6, a7, ap, am⟩ ⟨cf, cg, ch⟩
   obtain ⟨c9, d8, D⟩ := obind D
   refine ops_callI (σ := Unit) (d := some 40) (f := 19) (args := #[sl g r a, vI n]) (v := (fun _ => vI c9)) (I := (fun _ => True)) (M' := (fun _ => Mem w0 (ow Z ae aa 3 1 ad :: .blk E [.bool false] 4 :: .blk G [vP s 0] 26 :: .blk t [sl k A p, sl m B q, .map (some o)] 44 :: ow k A p 3 1 a6 :: ow m B q 3 1 a7 :: .obj o (.map ap am) :: .blk s [sl g r a, sl j u i] 28 :: ow g r a 3 1 x :: ow j u i 3 1 y :: Fz F W :: cs))) ⟨by kernel_rfl⟩ (fun H C hS => (@slices_Index_int_int_ok H H [] (fun b => b < H.heap.size) H g a r n (Mem.fz0 H) (C.ordS 8 10 rfl rfl X rfl rfl) c9 d8).mono (by rintro e w' ⟨_, -, rfl, h'⟩; have h' : Mem H [] w' := h'.pick 1 [] (by kernel_rfl) (by decide) rfl; exact ⟨(), trivial, rfl, C.join h' rfl, (hS.step h'.below)⟩)) ?_
   rintro _ -
   refine oq [oT 28, oT 29] [(42, .bool (!(c8 == c9))), (6, vP E 0), (4, vP G 0), (0, vP t 0), (2, vI n)] ?_
   refine ops_nil (fin_then ?_)
   refine sif D (fun d0 D => ?_) (fun d0 D => ?_)
   ·
    refine st_seq (st_region [oF 0] (by rfl) ?_)
    refine oS 1 0 [.bool false] ?_
    refine ops_nil (fin_then (st_ret (fin_ret_then ?_)))
    refine fin_outs rfl ?_
    refine outs_conv (M' := Mem w0 (ow Z ae aa 3 1 ad :: .blk E [.bool false] 4 :: .blk G [vP s 0] 26 :: .blk t [sl k A p, sl m B q, .map (some o)] 44 :: ow k A p 3 1 a6 :: ow m B q 3 1 a7 :: .obj o (.map ap am) :: .blk s [sl g r a, sl j u i] 28 :: ow g r a 3 1 x :: ow j u i 3 1 y :: Fz F W :: cs)) (fun _ h => h) ?_
    obtain rfl := Option.some.inj D
    refine outs_nil [.cell 6 4] [.bool false] rfl (fun H C => (.cell rfl (tr_run _ [.v (.bool false)] [ld E 0 (.bool false)] (.bool false : Value) _ _ (by kernel_rfl) ⟨C.cell 1 rfl rfl, rfl⟩) .nil)) (fun H C => ?_)
    exact ⟨(a6, a7, ap, am, x, y), ⟨cf, cg, ch, X, ab⟩, rfl, C.pick 11 [3, 4, 5, 6, 7, 8, 9, 10] (by kernel_rfl) (by decide) rfl⟩
   ·
    refine st_skip (fin_then (st_seq ?_))
    refine st_region (oFs 0 8) (by rfl) ?_
    refine oq [oF 0, oF 1] [(45, vI n), (44, vP t 0), (6, vP E 0), (4, vP G 0), (0, vP t 0), (2, vI n)] ?_
    obtain ⟨ar, bj, d9, D⟩ := obind2 D
    refine oV (some 46) 11 [3, 4, 5, 6, 10, 0, 1, 2, 7, 8, 9] 11 [5, 6, 7, 0, 1, 2, 3, 8, 9, 10, 4] (fun _ C => column_Store_int_Get_ok C cf cg ch d9) ?_
    rintro ⟨bk, bl, a3, a1⟩ ⟨ci, cj, ck⟩
    refine oq (oFs 3 5) [(8, .bool bj), (7, vI ar), (6, vP E 0), (4, vP G 0), (0, vP t 0), (2, vI n)] ?_
    refine ops_nil (fin_then ?_)
    refine st_join1 (σ := Unit) (L := fun _ => [(0, vP t 0), (4, vP G 0), (6, vP E 0)]) (N := fun _ => Mem w0 (.blk t [sl k A p, sl m B q, .map (some o)] 44 :: ow k A p 3 1 bk :: ow m B q 3 1 bl :: .obj o (.map a3 a1) :: .blk G [vP s 0] 26 :: .blk s [sl g r a, sl j u i] 28 :: ow g r a 3 1 x :: ow j u i 3 1 y :: .blk E [.bool false] 4 :: Fz F W :: cs)) (I := fun _ => ((tourlaw3_agrees_j1 A B a5 r u) = some au)) ?_ ?_
    ·
     rintro _ D
     unfold tourlaw3_agrees_j1 at D
     refine st_seq (st_region [oF 0, oF 1] (by rfl) ?_)
     refine oN 10 [vI 0] 3 (fun M => ?_)
     refine oS 0 0 [vI 0] ?_
     refine ops_nil (fin_then ?_)
     refine st_joinN1 (σ := Int × (List Value) × (List Value) × (Array MapEntry) × Nat × Nat) (nn := fun U => match U with | (ah, bb, bc, aw, av, bi) => ⟨123, [markOf bi]⟩) (L := fun U => match U with | (ah, bb, bc, aw, av, bi) => [(4, vP G 0), (6, vP E 0), (10, vP M 0)]) (N := fun U => match U with | (ah, bb, bc, aw, av, bi) => Mem w0 (.blk G [vP s 0] 26 :: .blk s [sl g r a, sl j u i] 28 :: ow g r a 3 1 x :: ow j u i 3 1 y :: .blk E [.bool false] 4 :: .blk M [vI ah] 3 :: .blk t [sl k A p, sl m B q, .map (some o)] 44 :: ow k A p 3 1 bb :: ow m B q 3 1 bc :: .obj o (.map aw av) :: .obj bi (.deferred (some [])) :: Fz F W :: cs)) (I := fun U => match U with | (ah, bb, bc, aw, av, bi) => ((tourlaw3_agrees_j2 r) ah = some au) ∧ (RepL (Rep.int .i64) F W A bb) ∧ (RepL (Rep.int .i64) F W B bc) ∧ (MapOK (fun U : Int => Value.int .i64 U) (Rep.int .i64) false F W a5 aw av)) ?_ ?_
     ·
      rintro ⟨ah, bb, bc, aw, av, bi⟩ ⟨D, ef, eg, eh⟩
      unfold tourlaw3_agrees_j2 at D
      refine st_seq ?_
      refine st_region_draw [oT 0, oT 1, oT 2, oT 3, oT 4, oT 5, oT 6, oF 7] (Mem w0 (.blk G [vP s 0] 26 :: .blk s [sl g r a, sl j u i] 28 :: ow g r a 3 1 x :: ow j u i 3 1 y :: .blk M [vI ah] 3 :: .blk t [sl k A p, sl m B q, .map (some o)] 44 :: ow k A p 3 1 bb :: ow m B q 3 1 bc :: .obj o (.map aw av) :: .obj bi (.deferred (some [])) :: Fz F W :: cs)) (by kernel_rfl) (by kernel_rfl) (by kernel_rfl) (fun _ d _ _ _ h => by cases d <;> exact h) (M' := Mem w0 (.blk G [vP s 0] 26 :: .blk s [sl g r a, sl j u i] 28 :: ow g r a 3 1 x :: ow j u i 3 1 y :: .blk E [.bool false] 4 :: .blk M [vI ah] 3 :: .blk t [sl k A p, sl m B q, .map (some o)] 44 :: ow k A p 3 1 bb :: ow m B q 3 1 bc :: .obj o (.map aw av) :: .obj bi (.deferred (some [])) :: Fz F W :: cs)) (fun H C => ⟨C.drew, C.drew.sub (.cons_cons _ (.cons_cons _ (.cons_cons _ (.cons_cons _ (.cons _ (.cons_cons _ (.cons_cons _ (.cons_cons _ (.cons_cons _ (.cons_cons _ (.cons_cons _ (.cons_cons _ (.refl _)))))))))))))⟩) ?_
      refine oL 116 4 0 ?_
      refine oL 117 0 0 ?_
      refine oq [oT 2, oT 3] [(119, vP s 0), (116, vI ah), (6, vP E 0)] ?_
      refine oL 120 1 0 ?_
      refine oq [oT 5, oT 6] [(122, .bool (ah == (r.length : Int))), (6, vP E 0)] ?_
      refine oSS 4 0 [.bool (ah == (r.length : Int))] (fun w' h' => (by exact h'.sub (.cons_cons _ (.cons_cons _ (.cons_cons _ (.cons_cons _ (.cons _ (.cons_cons _ (.cons_cons _ (.cons_cons _ (.cons_cons _ (.cons_cons _ (.cons_cons _ (.cons_cons _ (.refl _))))))))))))))) ?_
      refine ops_nil (fin_then (st_ret ?_))
      refine fin_outs rfl ?_
      refine outs_mark 10 rfl ?_
      refine outs_conv (M' := Mem w0 (.blk G [vP s 0] 26 :: .blk s [sl g r a, sl j u i] 28 :: ow g r a 3 1 x :: ow j u i 3 1 y :: .blk E [.bool (ah == (r.length : Int))] 4 :: .blk M [vI ah] 3 :: .blk t [sl k A p, sl m B q, .map (some o)] 44 :: ow k A p 3 1 bb :: ow m B q 3 1 bc :: .obj o (.map aw av) :: Fz F W :: cs)) (fun _ h => h) ?_
      obtain rfl := Option.some.inj D
      refine outs_nil [.cell 6 4] [.bool (ah == (r.length : Int))] rfl (fun H C => (.cell rfl (tr_run _ [.v (.bool (ah == (r.length : Int)))] [ld E 0 (.bool (ah == (r.length : Int)))] (.bool (ah == (r.length : Int)) : Value) _ _ (by kernel_rfl) ⟨C.cell 4 rfl rfl, rfl⟩) .nil)) (fun H C => ?_)
      exact ⟨(bb, bc, aw, av, x, y), ⟨ef, eg, eh, X, ab⟩, rfl, C.pick 11 [6, 7, 8, 9, 1, 2, 3, 10] (by kernel_rfl) (by decide) rfl⟩
     ·
      intro ee
      refine st_seq (st_seq (st_region [oF 0, oF 1] (by rfl) ?_))
      refine oq [oF 0] [(81, vP t 0), (10, vP M 0), (4, vP G 0), (6, vP E 0)] ?_
      obtain ⟨J, ak, ea, D⟩ := obind2 D
      refine oV (some 82) 11 [1, 2, 3, 4, 10, 0, 5, 6, 7, 8, 9] 15 [0, 1, 2, 3, 9, 4, 5, 6, 7, 10, 11, 12, 13, 14, 8] (fun _ C => column_Store_int_All_ok C ci cj ck ea) ?_
      rintro ⟨a0, b3, O, bx, T, c0, al, bz, a8, a9, aq, ao⟩ ⟨ei, ej, cl, cm, cn⟩
      refine ops_nil (fin_then (st_block ?_))
      refine st_keep (l' := [(82, .func (.func 32) #[] #[vP a0 0, vP T 0]), (10, vP M 0), (4, vP G 0), (6, vP E 0)]) [82, 10, 4, 6] (by kernel_rfl) ?_
      refine st_rangeFunc (tg := 82) (caps := #[vP a0 0, vP T 0]) (nf := 22) (lf := fun L_ => [(0, yv L_), (1, vP a0 0), (2, vP T 0)]) rfl Try.func32 rfl (by kernel_rfl) (by kernel_rfl) (fun L_ => by kernel_rfl) (fun _ => rfl) ?_
      intro g_ a_rf83 b6 Y rc_rf83 hrc_rf83 hk_rf83
      refine st_seq ?_
      refine st_region (oFs 0 3) (by rfl) ?_
      refine oM 6 2 0 ?_
      refine oq [oF 1, oF 2] [(8, vI 0), (7, vI (J.length : Int)), (6, sl b3 J O), (0, yv Y), (2, vP T 0)] ?_
      refine ops_nil (fin_then (st_block ?_))
      obtain ⟨r3, el, cp⟩ := obind D
      refine lp (σ := Int) (ρ := (Bool ⊕ Int)) (γ := Unit) el () (fun s_ g_ => match s_, g_ with | K, _ => [(0, yv Y), (2, vP T 0), (6, sl b3 J O), (7, vI (J.length : Int)), (8, vI K)]) (fun s_ g_ => match s_, g_ with | K, _ => Mem w0 (.blk T [sl c0 ak al] 22 :: ow c0 ak al 3 1 bz :: ow b3 J O 3 1 bx :: .blk t [sl k A p, sl m B q, .map (some o)] 44 :: ow k A p 3 1 a8 :: ow m B q 3 1 a9 :: .obj o (.map aq ao) :: .blk s [sl g r a, sl j u i] 28 :: ow g r a 3 1 x :: ow j u i 3 1 y :: .blk a0 [sl b3 J O] 22 :: .blk M [vI K] 3 :: .blk G [vP s 0] 26 :: .blk E [.bool false] 4 :: .obj Y (rc_rf83 .ready none) :: .obj b6 (.deferred (some [])) :: Fz F W :: cs)) (fun s_ g_ => match s_, g_ with | K, _ => True) trivial 17 [4, 5, 3, 7, 8, 9, 10, 12, 13, 14, 2, 6, 11, 15, 0, 1, 16] ?_
      rintro K _ o3 - hs_ co
      have D : (tourlaw3_agrees_l3 J ak r u) K = some o3 := hs_
      clear hs_
      unfold tourlaw3_agrees_l3 at D
      refine st_seq (st_region [oF 0] (by rfl) ?_)
      refine oq [oF 0] [(9, .bool (decide (K < (J.length : Int)))), (0, yv Y), (2, vP T 0), (6, sl b3 J O), (7, vI (J.length : Int)), (8, vI K)] ?_
      refine ops_nil (fin_then (st_seq ?_))
      refine sif D (fun d1 D => ?_) (fun d1 D => ?_)
      ·
       refine st_skip (fin_then (st_seq (st_block (st_seq ?_))))
       refine st_region (oFs 0 5) (by rfl) ?_
       refine oq [oF 0] [(10, vI K), (0, yv Y), (2, vP T 0), (6, sl b3 J O), (7, vI (J.length : Int)), (8, vI K)] ?_
       obtain ⟨af, eb, D⟩ := obind D
       obtain ⟨c4, d2, c3⟩ := idx_some eb
       have c2 := (List.getElem?_eq_some_iff.1 c3).1
       refine ops_fact (fun H C => C.orowSome 2 rfl (Nat.lt_of_le_of_lt (Nat.zero_le _) c2)) ?_
       rintro ⟨V, rfl, -⟩
       obtain ⟨es, hr92, d4⟩ := ei.at_ c4 af c3
       obtain rfl := hr92
       refine ops_val (op := (.indexAddr 22 (.tmp 6) (.tmp 8))) (d := some 11) (v := vP V (c4 * 1)) ⟨by kernel_rfl⟩ (run_indexRow Try.underlying22 (z := 1) (by kernel_rfl) rfl rfl d2 c2 rfl) ?_
       refine ops_mem (d := some 12) (an := [.v (vI af)]) (evs := [.load ⟨V, c4 * 1, none⟩ (vI af)]) (v := vI af) ⟨by kernel_rfl⟩ (fun H C hS => ⟨H, ⟨C.ocell 2 rfl (d4 0 _ rfl), rfl⟩, C, trivial⟩) ?_
       refine oq [oF 3, oF 4] [(5, vI af), (4, vI K), (0, yv Y), (2, vP T 0), (6, sl (sa V) J O), (7, vI (J.length : Int)), (8, vI K)] ?_
       refine ops_nil (fin_then (st_seq ?_))
       refine st_region (oFs 0 8) (by rfl) ?_
       refine oq [oF 0, oF 1] [(14, vI af), (13, yv Y), (4, vI K), (0, yv Y), (2, vP T 0), (6, sl (sa V) J O), (7, vI (J.length : Int)), (8, vI K)] ?_
       refine oM 15 0 0 ?_
       refine oq [oF 3] [(16, vI K), (15, sl c0 ak al), (14, vI af), (13, yv Y), (0, yv Y), (2, vP T 0), (6, sl (sa V) J O), (7, vI (J.length : Int)), (8, vI K)] ?_
       obtain ⟨ag, ec, D⟩ := obind D
       obtain ⟨c5, d3, cv⟩ := idx_some ec
       have cq := (List.getElem?_eq_some_iff.1 cv).1
       refine ops_fact (fun H C => C.orowSome 1 rfl (Nat.lt_of_le_of_lt (Nat.zero_le _) cq)) ?_
       rintro ⟨ac, rfl, -⟩
       obtain ⟨en, hr102, dp⟩ := ej.at_ c5 ag cv
       obtain rfl := hr102
       refine ops_val (op := (.indexAddr 22 (.tmp 15) (.tmp 16))) (d := some 17) (v := vP ac (c5 * 1)) ⟨by kernel_rfl⟩ (run_indexRow Try.underlying22 (z := 1) (by kernel_rfl) rfl rfl d3 cq rfl) ?_
       refine ops_mem (d := some 18) (an := [.v (vI ag)]) (evs := [.load ⟨ac, c5 * 1, none⟩ (vI ag)]) (v := vI ag) ⟨by kernel_rfl⟩ (fun H C hS => ⟨H, ⟨C.ocell 1 rfl (dp 0 _ rfl), rfl⟩, C, trivial⟩) ?_
       refine oq [] [(18, vI ag), (14, vI af), (13, yv Y), (0, yv Y), (2, vP T 0), (6, sl (sa V) J O), (7, vI (J.length : Int)), (8, vI K)] ?_
       refine ops_yield (cs := (.blk T [sl (sa ac) ak al] 22 :: ow (sa ac) ak al 3 1 bz :: ow (sa V) J O 3 1 bx :: .blk t [sl k A p, sl m B q, .map (some o)] 44 :: ow k A p 3 1 a8 :: ow m B q 3 1 a9 :: .obj o (.map aq ao) :: .blk s [sl g r a, sl j u i] 28 :: ow g r a 3 1 x :: ow j u i 3 1 y :: .blk a0 [sl (sa V) J O] 22 :: .blk M [vI K] 3 :: .blk G [vP s 0] 26 :: .blk E [.bool false] 4 :: .obj Y (rc_rf83 .ready none) :: .obj b6 (.deferred (some [])) :: Fz F W :: cs)) (d := some 19) (args := #[vI af, vI ag]) (l := [(18, vI ag), (14, vI af), (13, yv Y), (0, yv Y), (2, vP T 0), (6, sl (sa V) J O), (7, vI (J.length : Int)), (8, vI K)]) (lr := [(84, vI ag), (83, vI af), (82, .func (.func 32) #[] #[vP a0 0, vP T 0]), (10, vP M 0), (4, vP G 0), (6, vP E 0)]) 14 rfl hrc_rf83 ⟨by kernel_rfl⟩ hk_rf83 (by kernel_rfl) (by kernel_rfl) ?_
       intro a_rd106 hk_rd106
       refine st_seq (st_region [oF 0] (by rfl) ?_)
       refine oq [oF 0] [(11, vI af), (84, vI ag), (10, vP M 0), (4, vP G 0), (6, vP E 0)] ?_
       refine ops_nil (fin_then (st_region [oF 0] (by rfl) ?_))
       refine oq [oF 0] [(12, vI ag), (11, vI af), (10, vP M 0), (4, vP G 0), (6, vP E 0)] ?_
       refine ops_nil ?_
       refine fin_begin 14 rfl hrc_rf83 ?_
       refine st_block (st_seq (st_seq ?_))
       refine st_region_fast tourlaw3_agrees__t1 (oTs 0 29) (Mem w0 (.blk T [sl (sa ac) ak al] 22 :: ow (sa ac) ak al 3 1 bz :: ow (sa V) J O 3 1 bx :: .blk t [sl k A p, sl m B q, .map (some o)] 44 :: ow k A p 3 1 a8 :: ow m B q 3 1 a9 :: .obj o (.map aq ao) :: .blk s [sl g r a, sl j u i] 28 :: ow g r a 3 1 x :: ow j u i 3 1 y :: .blk a0 [sl (sa V) J O] 22 :: .blk M [vI K] 3 :: .blk G [vP s 0] 26 :: .blk E [.bool false] 4 :: .obj Y (rc_rf83 .busy none) :: .obj b6 (.deferred (some [])) :: Fz F W :: cs)) (by kernel_rfl) (by kernel_rfl) (by kernel_rfl) (by kernel_rfl) (by kernel_rfl) (fun _ d _ _ _ h => by cases d <;> exact h) (M' := Mem w0 (.blk T [sl (sa ac) ak al] 22 :: ow (sa ac) ak al 3 1 bz :: ow (sa V) J O 3 1 bx :: .blk t [sl k A p, sl m B q, .map (some o)] 44 :: ow k A p 3 1 a8 :: ow m B q 3 1 a9 :: .obj o (.map aq ao) :: .blk s [sl g r a, sl j u i] 28 :: ow g r a 3 1 x :: ow j u i 3 1 y :: .blk a0 [sl (sa V) J O] 22 :: .blk M [vI K] 3 :: .blk G [vP s 0] 26 :: .blk E [.bool false] 4 :: .obj Y (rc_rf83 .busy none) :: .obj b6 (.deferred (some [])) :: Fz F W :: cs)) (fun H C => ⟨C.drew, C.drew.sub (.cons_cons _ (.cons_cons _ (.cons_cons _ (.cons_cons _ (.cons_cons _ (.cons_cons _ (.cons_cons _ (.cons_cons _ (.cons_cons _ (.cons_cons _ (.cons_cons _ (.cons_cons _ (.cons_cons _ (.cons_cons _ (.cons_cons _ (.cons_cons _ (.cons_cons _ (.refl _))))))))))))))))))⟩) ?_
       refine oL 85 11 0 ?_
       refine oL 86 12 0 ?_
       refine oq [oT 2, oT 3] [(88, vP s 0), (85, vI K), (12, vI ag), (11, vI af), (10, vP M 0), (4, vP G 0), (6, vP E 0)] ?_
       refine oL 89 7 0 ?_
       refine oq (oTs 5 3) [(92, .bool (decide ((r.length : Int) ≤ K))), (12, vI ag), (11, vI af), (10, vP M 0), (4, vP G 0), (6, vP E 0)] ?_
       refine ob D [92] (fun de D => ?_) (fun de D => ?_)
       ·
        refine oq (oTs 8 21) [(113, .bool true), (10, vP M 0), (6, vP E 0)] ?_
        refine ops_nil (fin_then (st_true rfl (st_seq (st_region [oF 0] (by rfl) ?_))))
        refine oS 13 0 [.bool false] ?_
        refine ops_nil (fin_then (st_ret (fin_ret_then (fin_ret_block ?_))))
        refine fin_round_off (e := .ret) (c := .ret) rfl 14 rfl hrc_rf83 hk_rd106 (by intro t_ h_; cases h_; decide) (fun H h' => trivial) ?_
        refine oq [oF 7] [(20, .bool true), (0, yv Y), (2, vP T 0), (6, sl (sa V) J O), (7, vI (J.length : Int)), (8, vI K)] ?_
        refine ops_nil (fin_then (st_true rfl (st_ret (fin_ret_block (fin_ret_then (fin_ret_then (fin_ret_block ?_)))))))
        refine fin_rf_off (e' := .ret) (c := .ret) rfl rfl rfl 14 rfl hrc_rf83 hk_rf83 ?_
        refine fin_ret_block (fin_ret_then ?_)
        refine fin_outs rfl ?_
        refine outs_mark 14 rfl ?_
        refine outs_conv (M' := Mem w0 (.blk T [sl (sa ac) ak al] 22 :: ow (sa ac) ak al 3 1 bz :: ow (sa V) J O 3 1 bx :: .blk t [sl k A p, sl m B q, .map (some o)] 44 :: ow k A p 3 1 a8 :: ow m B q 3 1 a9 :: .obj o (.map aq ao) :: .blk s [sl g r a, sl j u i] 28 :: ow g r a 3 1 x :: ow j u i 3 1 y :: .blk a0 [sl (sa V) J O] 22 :: .blk M [vI K] 3 :: .blk G [vP s 0] 26 :: .blk E [.bool false] 4 :: Fz F W :: cs)) (fun _ h => h) ?_
        obtain rfl := Option.some.inj D
        obtain rfl := co _ rfl
        have D : some false = some au := cp
        obtain rfl := Option.some.inj D
        refine outs_nil [.cell 6 4] [.bool false] rfl (fun H C => (.cell rfl (tr_run _ [.v (.bool false)] [ld E 0 (.bool false)] (.bool false : Value) _ _ (by kernel_rfl) ⟨C.cell 13 rfl rfl, rfl⟩) .nil)) (fun H C => ?_)
        exact ⟨(a8, a9, aq, ao, x, y), ⟨cl, cm, cn, X, ab⟩, rfl, C.pick 15 [3, 4, 5, 6, 7, 8, 9, 14] (by kernel_rfl) (by decide) rfl⟩
       ·
        refine oq [oT 8] [(93, vI af), (92, .bool false), (12, vI ag), (10, vP M 0), (4, vP G 0), (6, vP E 0)] ?_
        refine oL 94 12 0 ?_
        refine oq [oT 10, oT 11] [(96, vP s 0), (93, vI af), (92, .bool false), (12, vI ag), (10, vP M 0), (4, vP G 0), (6, vP E 0)] ?_
        refine oL 97 7 0 ?_
        refine oL 98 11 0 ?_
        obtain ⟨bs, dt, D⟩ := obind D
        obtain ⟨b7, dl, cw⟩ := idx_some dt
        have cr := (List.getElem?_eq_some_iff.1 cw).1
        refine ops_fact (fun H C => C.orowSome 8 rfl (Nat.lt_of_le_of_lt (Nat.zero_le _) cr)) ?_
        rintro ⟨bh, rfl, -⟩
        obtain ⟨eo, hr114, dq⟩ := X.at_ b7 bs cw
        obtain rfl := hr114
        refine ops_val (op := (.indexAddr 22 (.tmp 97) (.tmp 98))) (d := some 99) (v := vP bh (b7 * 1)) ⟨by kernel_rfl⟩ (run_indexRow Try.underlying22 (z := 1) (by kernel_rfl) rfl rfl dl cr rfl) ?_
        refine ops_load (d := some 100) (an := [.v (vI bs)]) (evs := [.load ⟨bh, b7 * 1, none⟩ (vI bs)]) (v := vI bs) ⟨by kernel_rfl⟩ (fun H C => ⟨C.ocell 8 rfl (dq 0 _ rfl), rfl⟩) ?_
        refine oq (oTs 16 3) [(103, .bool (!(af == bs))), (12, vI ag), (10, vP M 0), (4, vP G 0), (6, vP E 0)] ?_
        refine ob D [103] (fun df D => ?_) (fun df D => ?_)
        ·
         refine oq (oTs 19 10) [(113, .bool true), (10, vP M 0), (6, vP E 0)] ?_
         refine ops_nil (fin_then (st_true rfl (st_seq (st_region [oF 0] (by rfl) ?_))))
         refine oS 13 0 [.bool false] ?_
         refine ops_nil (fin_then (st_ret (fin_ret_then (fin_ret_block ?_))))
         refine fin_round_off (e := .ret) (c := .ret) rfl 14 rfl hrc_rf83 hk_rd106 (by intro t_ h_; cases h_; decide) (fun H h' => trivial) ?_
         refine oq [oF 7] [(20, .bool true), (0, yv Y), (2, vP T 0), (6, sl (sa V) J O), (7, vI (J.length : Int)), (8, vI K)] ?_
         refine ops_nil (fin_then (st_true rfl (st_ret (fin_ret_block (fin_ret_then (fin_ret_then (fin_ret_block ?_)))))))
         refine fin_rf_off (e' := .ret) (c := .ret) rfl rfl rfl 14 rfl hrc_rf83 hk_rf83 ?_
         refine fin_ret_block (fin_ret_then ?_)
         refine fin_outs rfl ?_
         refine outs_mark 14 rfl ?_
         refine outs_conv (M' := Mem w0 (.blk T [sl (sa ac) ak al] 22 :: ow (sa ac) ak al 3 1 bz :: ow (sa V) J O 3 1 bx :: .blk t [sl k A p, sl m B q, .map (some o)] 44 :: ow k A p 3 1 a8 :: ow m B q 3 1 a9 :: .obj o (.map aq ao) :: .blk s [sl (sa bh) r a, sl j u i] 28 :: ow (sa bh) r a 3 1 x :: ow j u i 3 1 y :: .blk a0 [sl (sa V) J O] 22 :: .blk M [vI K] 3 :: .blk G [vP s 0] 26 :: .blk E [.bool false] 4 :: Fz F W :: cs)) (fun _ h => h) ?_
         obtain rfl := Option.some.inj D
         obtain rfl := co _ rfl
         have D : some false = some au := cp
         obtain rfl := Option.some.inj D
         refine outs_nil [.cell 6 4] [.bool false] rfl (fun H C => (.cell rfl (tr_run _ [.v (.bool false)] [ld E 0 (.bool false)] (.bool false : Value) _ _ (by kernel_rfl) ⟨C.cell 13 rfl rfl, rfl⟩) .nil)) (fun H C => ?_)
         exact ⟨(a8, a9, aq, ao, x, y), ⟨cl, cm, cn, X, ab⟩, rfl, C.pick 15 [3, 4, 5, 6, 7, 8, 9, 14] (by kernel_rfl) (by decide) rfl⟩
        ·
         refine oq [oT 19] [(104, vI ag), (103, .bool false), (10, vP M 0), (4, vP G 0), (6, vP E 0)] ?_
         refine oL 105 12 0 ?_
         refine oq [oT 21, oT 22] [(107, vP s 1), (104, vI ag), (103, .bool false), (10, vP M 0), (6, vP E 0)] ?_
         refine oL 108 7 1 ?_
         refine oL 109 11 0 ?_
         obtain ⟨bt, du, D⟩ := obind D
         obtain ⟨b8, dm, cx⟩ := idx_some du
         have ct := (List.getElem?_eq_some_iff.1 cx).1
         refine ops_fact (fun H C => C.orowSome 9 rfl (Nat.lt_of_le_of_lt (Nat.zero_le _) ct)) ?_
         rintro ⟨b4, rfl, -⟩
         obtain ⟨ep, hr125, dr⟩ := ab.at_ b8 bt cx
         obtain rfl := hr125
         refine ops_val (op := (.indexAddr 22 (.tmp 108) (.tmp 109))) (d := some 110) (v := vP b4 (b8 * 1)) ⟨by kernel_rfl⟩ (run_indexRow Try.underlying22 (z := 1) (by kernel_rfl) rfl rfl dm ct rfl) ?_
         refine ops_load (d := some 111) (an := [.v (vI bt)]) (evs := [.load ⟨b4, b8 * 1, none⟩ (vI bt)]) (v := vI bt) ⟨by kernel_rfl⟩ (fun H C => ⟨C.ocell 9 rfl (dr 0 _ rfl), rfl⟩) ?_
         refine oq [oT 27, oT 28] [(113, .bool (!(ag == bt))), (10, vP M 0), (6, vP E 0)] ?_
         refine ops_nil (fin_then ?_)
         refine sif D (fun dg D => ?_) (fun dg D => ?_)
         ·
          refine st_seq (st_region [oF 0] (by rfl) ?_)
          refine oS 13 0 [.bool false] ?_
          refine ops_nil (fin_then (st_ret (fin_ret_then (fin_ret_block ?_))))
          refine fin_round_off (e := .ret) (c := .ret) rfl 14 rfl hrc_rf83 hk_rd106 (by intro t_ h_; cases h_; decide) (fun H h' => trivial) ?_
          refine oq [oF 7] [(20, .bool true), (0, yv Y), (2, vP T 0), (6, sl (sa V) J O), (7, vI (J.length : Int)), (8, vI K)] ?_
          refine ops_nil (fin_then (st_true rfl (st_ret (fin_ret_block (fin_ret_then (fin_ret_then (fin_ret_block ?_)))))))
          refine fin_rf_off (e' := .ret) (c := .ret) rfl rfl rfl 14 rfl hrc_rf83 hk_rf83 ?_
          refine fin_ret_block (fin_ret_then ?_)
          refine fin_outs rfl ?_
          refine outs_mark 14 rfl ?_
          refine outs_conv (M' := Mem w0 (.blk T [sl (sa ac) ak al] 22 :: ow (sa ac) ak al 3 1 bz :: ow (sa V) J O 3 1 bx :: .blk t [sl k A p, sl m B q, .map (some o)] 44 :: ow k A p 3 1 a8 :: ow m B q 3 1 a9 :: .obj o (.map aq ao) :: .blk s [sl (sa bh) r a, sl (sa b4) u i] 28 :: ow (sa bh) r a 3 1 x :: ow (sa b4) u i 3 1 y :: .blk a0 [sl (sa V) J O] 22 :: .blk M [vI K] 3 :: .blk G [vP s 0] 26 :: .blk E [.bool false] 4 :: Fz F W :: cs)) (fun _ h => h) ?_
          obtain rfl := Option.some.inj D
          obtain rfl := co _ rfl
          have D : some false = some au := cp
          obtain rfl := Option.some.inj D
          refine outs_nil [.cell 6 4] [.bool false] rfl (fun H C => (.cell rfl (tr_run _ [.v (.bool false)] [ld E 0 (.bool false)] (.bool false : Value) _ _ (by kernel_rfl) ⟨C.cell 13 rfl rfl, rfl⟩) .nil)) (fun H C => ?_)
          exact ⟨(a8, a9, aq, ao, x, y), ⟨cl, cm, cn, X, ab⟩, rfl, C.pick 15 [3, 4, 5, 6, 7, 8, 9, 14] (by kernel_rfl) (by decide) rfl⟩
         ·
          refine st_skip (fin_then ?_)
          refine st_region (oFs 0 3) (by rfl) ?_
          refine oM 114 11 0 ?_
          refine oq [oF 1] [(115, vI (IntKind.i64.wrap (K + 1))), (10, vP M 0)] ?_
          refine oS 11 0 [vI (IntKind.i64.wrap (K + 1))] ?_
          refine ops_nil (fin_block ?_)
          refine fin_round_on 14 rfl hrc_rf83 hk_rd106 (by intro t_ h_; cases h_; decide) (fun H h' => trivial) ?_
          refine oq [oF 7] [(20, .bool false), (0, yv Y), (2, vP T 0), (6, sl (sa V) J O), (7, vI (J.length : Int)), (8, vI K)] ?_
          refine ops_nil (fin_then (st_false rfl (st_skip (fin_block (fin_then (st_region [oF 0, oF 1] (by rfl) ?_))))))
          refine oq [oF 0, oF 1] [(8, vI (IntKind.i64.wrap (K + 1))), (0, yv Y), (2, vP T 0), (6, sl (sa V) J O), (7, vI (J.length : Int))] ?_
          refine ops_nil ?_
          exact fag (IntKind.i64.wrap (K + 1)) () (Option.some.inj D).symm trivial 0 []
      ·
       refine st_exit (fin_exit_then (fin_exit_then (fin_exit ?_)))
       refine fin_rf_on rfl rfl 14 rfl hrc_rf83 hk_rf83 ?_
       refine fin_block ?_
       obtain rfl := Option.some.inj D
       obtain rfl := co _ rfl
       have D : (tourlaw3_agrees_j2 r) K = some au := cp
       exact fin_joinN ee (K, a8, a9, aq, ao, b6) rfl ⟨D, cl, cm, cn⟩ (look_has ⟨rfl, rfl, rfl, trivial⟩) (fun H C => C.pick 16 [12, 7, 8, 9, 13, 11, 3, 4, 5, 6, 14, 15] (by kernel_rfl) (by decide) rfl)
    ·
     intro dx
     refine st_seq (st_seq ?_)
     refine st_region (oFs 0 7) (by rfl) ?_
     refine oM 49 2 0 ?_
     refine oq [oF 1, oF 2] [(51, vP s 0), (8, .bool bj), (7, vI ar), (6, vP E 0), (4, vP G 0), (0, vP t 0), (2, vI n)] ?_
     refine oM 52 7 0 ?_
     refine oq [oF 4] [(53, vI n), (52, sl g r a), (8, .bool bj), (7, vI ar), (6, vP E 0), (4, vP G 0), (0, vP t 0)] ?_
     obtain ⟨ax, dv, D⟩ := obind D
     refine ops_callI (σ := Unit) (d := some 54) (f := 19) (args := #[sl g r a, vI n]) (v := (fun _ => vI ax)) (I := (fun _ => True)) (M' := (fun _ => Mem w0 (ow Z ae aa 3 1 ad :: .blk E [.bool false] 4 :: .blk G [vP s 0] 26 :: .blk t [sl k A p, sl m B q, .map (some o)] 44 :: ow k A p 3 1 bk :: ow m B q 3 1 bl :: .obj o (.map a3 a1) :: .blk s [sl g r a, sl j u i] 28 :: ow g r a 3 1 x :: ow j u i 3 1 y :: Fz F W :: cs))) ⟨by kernel_rfl⟩ (fun H C hS => (@slices_Index_int_int_ok H H [] (fun b => b < H.heap.size) H g a r n (Mem.fz0 H) (C.ordS 8 10 rfl rfl X rfl rfl) ax dv).mono (by rintro e w' ⟨_, -, rfl, h'⟩; have h' : Mem H [] w' := h'.pick 1 [] (by kernel_rfl) (by decide) rfl; exact ⟨(), trivial, rfl, C.join h' rfl, trivial⟩)) ?_
     rintro _ -
     refine oq [oF 6] [(9, vI ax), (8, .bool bj), (7, vI ar), (6, vP E 0), (4, vP G 0), (0, vP t 0)] ?_
     refine ops_nil (fin_then (st_seq ?_))
     refine st_region (oFs 0 26) (by rfl) ?_
     refine oq (oFs 0 5) [(59, .bool (!(bj == decide (0 ≤ ax)))), (9, vI ax), (8, .bool bj), (7, vI ar), (6, vP E 0), (4, vP G 0), (0, vP t 0)] ?_
     refine ob D [59] (fun dh D => ?_) (fun dh D => ?_)
     ·
      refine oq (oFs 5 21) [(80, .bool true), (6, vP E 0), (4, vP G 0), (0, vP t 0)] ?_
      refine ops_nil (fin_then (st_true rfl (st_seq (st_region [oF 0] (by rfl) ?_))))
      refine oS 1 0 [.bool false] ?_
      refine ops_nil (fin_then (st_ret (fin_ret_then ?_)))
      refine fin_outs rfl ?_
      refine outs_conv (M' := Mem w0 (ow Z ae aa 3 1 ad :: .blk E [.bool false] 4 :: .blk G [vP s 0] 26 :: .blk t [sl k A p, sl m B q, .map (some o)] 44 :: ow k A p 3 1 bk :: ow m B q 3 1 bl :: .obj o (.map a3 a1) :: .blk s [sl g r a, sl j u i] 28 :: ow g r a 3 1 x :: ow j u i 3 1 y :: Fz F W :: cs)) (fun _ h => h) ?_
      obtain rfl := Option.some.inj D
      refine outs_nil [.cell 6 4] [.bool false] rfl (fun H C => (.cell rfl (tr_run _ [.v (.bool false)] [ld E 0 (.bool false)] (.bool false : Value) _ _ (by kernel_rfl) ⟨C.cell 1 rfl rfl, rfl⟩) .nil)) (fun H C => ?_)
      exact ⟨(bk, bl, a3, a1, x, y), ⟨ci, cj, ck, X, ab⟩, rfl, C.pick 11 [3, 4, 5, 6, 7, 8, 9, 10] (by kernel_rfl) (by decide) rfl⟩
     ·
      refine oq [oF 5, oF 6] [(61, .bool bj), (59, .bool false), (9, vI ax), (8, .bool bj), (7, vI ar), (6, vP E 0), (4, vP G 0), (0, vP t 0)] ?_
      refine ob D [61, 8] (fun di D => ?_) (fun di D => ?_)
      ·
       refine oq [oF 7] [(62, vI ar), (61, .bool true), (59, .bool false), (9, vI ax), (8, .bool true), (7, vI ar), (6, vP E 0), (4, vP G 0), (0, vP t 0)] ?_
       refine oM 63 2 0 ?_
       refine oq [oF 9, oF 10] [(65, vP s 1), (62, vI ar), (61, .bool true), (59, .bool false), (9, vI ax), (8, .bool true), (7, vI ar), (6, vP E 0), (4, vP G 0), (0, vP t 0)] ?_
       refine oM 66 7 1 ?_
       refine oq [oF 12] [(67, vI ax), (66, sl j u i), (62, vI ar), (61, .bool true), (59, .bool false), (8, .bool true), (7, vI ar), (6, vP E 0), (4, vP G 0), (0, vP t 0)] ?_
       obtain ⟨bu, dw, D⟩ := obind D
       obtain ⟨b9, dn, cy⟩ := idx_some dw
       have cu := (List.getElem?_eq_some_iff.1 cy).1
       refine ops_fact (fun H C => C.orowSome 9 rfl (Nat.lt_of_le_of_lt (Nat.zero_le _) cu)) ?_
       rintro ⟨b5, rfl, -⟩
       obtain ⟨eq, hr140, ds⟩ := ab.at_ b9 bu cy
       obtain rfl := hr140
       refine ops_val (op := (.indexAddr 22 (.tmp 66) (.tmp 67))) (d := some 68) (v := vP b5 (b9 * 1)) ⟨by kernel_rfl⟩ (run_indexRow Try.underlying22 (z := 1) (by kernel_rfl) rfl rfl dn cu rfl) ?_
       refine ops_mem (d := some 69) (an := [.v (vI bu)]) (evs := [.load ⟨b5, b9 * 1, none⟩ (vI bu)]) (v := vI bu) ⟨by kernel_rfl⟩ (fun H C hS => ⟨H, ⟨C.ocell 9 rfl (ds 0 _ rfl), rfl⟩, C, trivial⟩) ?_
       refine oq (oFs 15 4) [(73, .bool (!(ar == bu))), (8, .bool true), (7, vI ar), (6, vP E 0), (4, vP G 0), (0, vP t 0)] ?_
       refine ob D [73] (fun dj D => ?_) (fun dj D => ?_)
       ·
        refine oq (oFs 19 7) [(80, .bool true), (6, vP E 0), (4, vP G 0), (0, vP t 0)] ?_
        refine ops_nil (fin_then (st_true rfl (st_seq (st_region [oF 0] (by rfl) ?_))))
        refine oS 1 0 [.bool false] ?_
        refine ops_nil (fin_then (st_ret (fin_ret_then ?_)))
        refine fin_outs rfl ?_
        refine outs_conv (M' := Mem w0 (ow Z ae aa 3 1 ad :: .blk E [.bool false] 4 :: .blk G [vP s 0] 26 :: .blk t [sl k A p, sl m B q, .map (some o)] 44 :: ow k A p 3 1 bk :: ow m B q 3 1 bl :: .obj o (.map a3 a1) :: .blk s [sl g r a, sl (sa b5) u i] 28 :: ow g r a 3 1 x :: ow (sa b5) u i 3 1 y :: Fz F W :: cs)) (fun _ h => h) ?_
        obtain rfl := Option.some.inj D
        refine outs_nil [.cell 6 4] [.bool false] rfl (fun H C => (.cell rfl (tr_run _ [.v (.bool false)] [ld E 0 (.bool false)] (.bool false : Value) _ _ (by kernel_rfl) ⟨C.cell 1 rfl rfl, rfl⟩) .nil)) (fun H C => ?_)
        exact ⟨(bk, bl, a3, a1, x, y), ⟨ci, cj, ck, X, ab⟩, rfl, C.pick 11 [3, 4, 5, 6, 7, 8, 9, 10] (by kernel_rfl) (by decide) rfl⟩
       ·
        refine oq (oFs 19 7) [(80, .bool false), (6, vP E 0), (4, vP G 0), (0, vP t 0)] ?_
        refine ops_nil (fin_then (st_false rfl (st_skip ?_)))
        exact fj dx () D 11 [3, 4, 5, 6, 2, 7, 8, 9, 1, 10]
      ·
       refine oq (oFs 7 19) [(80, .bool (!(ar == 0))), (6, vP E 0), (4, vP G 0), (0, vP t 0)] ?_
       refine ops_nil (fin_then ?_)
       refine sif D (fun dk D => ?_) (fun dk D => ?_)
       ·
        refine st_seq (st_region [oF 0] (by rfl) ?_)
        refine oS 1 0 [.bool false] ?_
        refine ops_nil (fin_then (st_ret (fin_ret_then ?_)))
        refine fin_outs rfl ?_
        refine outs_conv (M' := Mem w0 (ow Z ae aa 3 1 ad :: .blk E [.bool false] 4 :: .blk G [vP s 0] 26 :: .blk t [sl k A p, sl m B q, .map (some o)] 44 :: ow k A p 3 1 bk :: ow m B q 3 1 bl :: .obj o (.map a3 a1) :: .blk s [sl g r a, sl j u i] 28 :: ow g r a 3 1 x :: ow j u i 3 1 y :: Fz F W :: cs)) (fun _ h => h) ?_
        obtain rfl := Option.some.inj D
        refine outs_nil [.cell 6 4] [.bool false] rfl (fun H C => (.cell rfl (tr_run _ [.v (.bool false)] [ld E 0 (.bool false)] (.bool false : Value) _ _ (by kernel_rfl) ⟨C.cell 1 rfl rfl, rfl⟩) .nil)) (fun H C => ?_)
        exact ⟨(bk, bl, a3, a1, x, y), ⟨ci, cj, ck, X, ab⟩, rfl, C.pick 11 [3, 4, 5, 6, 7, 8, 9, 10] (by kernel_rfl) (by decide) rfl⟩
       ·
        refine st_skip ?_
        exact fj dx () D 11 [3, 4, 5, 6, 2, 7, 8, 9, 1, 10]
theorem column_New_string_ok (u : Mem w0 (Fz F W :: cs) w) {j : List ByteArray} {k : List Int} {r : List (Int × Int)} (x : column_New_string = some (j, k, r)) : Calls Try.prog 27 #[] w (Post w0 (fun ((g, a, b, m, p, i, f, c) : Nat × (Option Addr) × Nat × (List Value) × (List Value) × Nat × (Array MapEntry) × Nat) => (RepL Rep.str F W j m) ∧ (RepL (Rep.int .i64) F W k p) ∧ (MapOK (fun s : Int => Value.int .i64 s) (Rep.int .i64) false F W r f c)) (fun (g, a, b, m, p, i, f, c) => vP g 0) (fun (g, a, b, m, p, i, f, c) => .blk g [sl a j b, sl a k b, .map (some i)] 62 :: ow a j b 9 1 m :: ow a k b 3 1 p :: .obj i (.map f c) :: Fz F W :: cs)) := by
 unfold column_New_string at x
 refine sx_calls Try.func27 rfl (n := 4) (by kernel_rfl) (l := []) rfl (by rfl) u ?_
 refine st_seq (st_region [oF 0] (by rfl) ?_)
 refine oq [oF 0] [] ?_
 refine ops_nil (fin_then (st_seq ?_))
 refine st_region (oFs 0 4) (by rfl) ?_
 have y := (MapOK.nil : MapOK (fun s : Int => Value.int .i64 s) (Rep.int .i64) false F W ([] : List (Int × Int)) #[] 0)
 refine ops_new (d := some 1) (o := .map #[] 0) (v := fun q => .map (some q)) (M' := fun q => Mem w0 (.obj q (.map #[] 0) :: Fz F W :: cs)) (fun q => ⟨by kernel_rfl⟩) (fun B z A => ⟨z.objNew _, trivial⟩) (fun q => ?_)
 refine oq [oF 1] [(2, .agg #[.slice none 0 0, .slice none 0 0, .map (some q)])] ?_
 refine oN 3 [.slice none 0 0, .slice none 0 0, .map (some q)] 62 (fun t => ?_)
 refine oq [oF 3] [(0, vP t 0)] ?_
 refine ops_nil (fin_then (st_ret ?_))
 refine fnil 9 1 ?_
 refine fnil 3 1 ?_
 obtain ⟨rfl, rfl, rfl⟩ := si3 x
 exact fr [0] (t, none, 0, [], [], q, #[], 0) ⟨(RepL.nil (R := Rep.str)), (RepL.nil (R := (Rep.int .i64))), y⟩ 5 [2, 1, 0, 3, 4]
theorem tourlaw3_ColumnPlays_1_ok {n : Int} {v : Int} (j : Mem w0 (Fz F W :: cs) w) {b : ByteArray} (g : tourlaw3_ColumnPlays_1 n v = some b) : Calls Try.prog 14 #[vI n, vI v] w (Post w0 (fun (_ : Unit) => True) (fun _ => .string b) (fun _ => Fz F W :: cs)) := by
 unfold tourlaw3_ColumnPlays_1 at g
 refine sx_calls Try.func14 rfl (n := 11) (by kernel_rfl) (l := [(0, vI n), (1, vI v)]) rfl (by rfl) j ?_
 refine st_seq (st_region [oF 0] (by rfl) ?_)
 refine oq [oF 0] [(0, vI n), (1, vI v)] ?_
 refine ops_nil (fin_then (st_seq ?_))
 refine st_region (oFs 0 7) (by rfl) ?_
 refine oq (oFs 0 4) [(8, .int .u8 (IntKind.u8.wrap v)), (6, .int .u8 (IntKind.u8.wrap n))] ?_
 have q : RepL (Rep.int .u8) F W ([IntKind.u8.wrap n, IntKind.u8.wrap v] : List Int) ([.int .u8 (IntKind.u8.wrap n), .int .u8 (IntKind.u8.wrap v)]) := (RepL.cons (R := (Rep.int .u8)) (F := F) (w := W) (vs := [.int .u8 (IntKind.u8.wrap n)]) (ys := [.int .u8 (IntKind.u8.wrap v)]) rfl (RepL.cons (R := (Rep.int .u8)) (F := F) (w := W) (vs := [.int .u8 (IntKind.u8.wrap v)]) (ys := []) rfl RepL.nil))
 refine oB 9 [.int .u8 (IntKind.u8.wrap n), .int .u8 (IntKind.u8.wrap v)] 5 2 1 (fun p => ?_)
 obtain ⟨m, k, g⟩ := obind g
 refine ops_law (op := (.convert 35 9 (.tmp 9))) (d := some 10) (σ := Unit) (v := fun _ => .string m) (M' := fun _ => Mem w0 (orow (sa p) ([IntKind.u8.wrap n, IntKind.u8.wrap v] : List Int).length 2 5 1 ([.int .u8 (IntKind.u8.wrap n), .int .u8 (IntKind.u8.wrap v)]) :: Fz F W :: cs)) ⟨by kernel_rfl⟩ (fun o_ o ho_ i r => ⟨(), o, run_convV rfl (by rw [← Option.some.inj k]; exact conv_str (F := fun b_ => b_ < o.heap.size) (i.ordS 0 1 rfl rfl q rfl rfl) Try.underlying35 Try.underlying5 Try.underlying9) o_ ho_, i, trivial⟩) (fun _ => ?_)
 refine oq [oF 6] [(4, .string m)] ?_
 refine ops_nil (fin_then (st_ret ?_))
 obtain rfl := Option.some.inj g
 exact fr [4] () trivial 2 [1]
end Go.Proofs.Ytbfndcookgijfaa.P
