/- Part of the proof of TopTry, TopSplit: NumF. Conditions: none. -/
import Derived.Test.YtdaflmjfeoacaaaGreatZbah
import Derived.StillTailTactics
set_option linter.all false
set_option maxHeartbeats 16000000
set_option maxRecDepth 4000
namespace Go.Proofs.YtdaflmjfeoacaaaGreat
open Tryz
open Go.RowKit
theorem U5c (z:Int):bits .and .i64 (bits .or .i64 (IntKind.i64.wrap (z / 4611686018427387904*1073741824)) (z % 4611686018427387904 / 4294967296)) 4611686018427387903=z / 4294967296 % 4611686018427387904:=by
 rw[U7d 30 (by omega) (by rw[Xf];omega) (by omega) (by omega),Uyo,Xf,Xf];omega
theorem Uvn {z:Int}(hz:Wz z)(w:World):Calls prog 198 #[wz z,.int .i64 32] w (Ub (wz (z / 4294967296)) w):=by
 have hk:=hz.ok;have K1:=Qd (fun w=>Ua8 hk w);have F0:=U5c z;have e1:z / 4294967296 / 4611686018427387904=z / 4611686018427387904 / 4294967296:=by omega
 unfold wz wv;unfold wv at K1;rw[e1];clear e1 hk hz;generalize z / 4611686018427387904=h at *;generalize z % 4611686018427387904=l at *;generalize z / 4294967296 % 4611686018427387904=m at *;go_enter func198,ntmps198;go_wp2_with fail;refine(K1.out _).mono ?_;rintro e w1 ⟨rfl,hb⟩;have BX:=Qd (((Box.new w 172 #[.int .i64 h,.int .i64 l]).alloc _).kept hb);have BR:=Qd ((Box.at_ (g:=w.heap.size+1) (by simp) 172 #[.int .i64 0,.int .i64 0]).kept hb);have HB:=Qd (Ufm hb);obtain⟨c1,c2,c3,c4⟩:=Ul9 BX.out;clear hb K1;go_wp2_with fail;have e32:max (0:Int) (min 32 200)=32:=by decide
 simp only[e32];refine Uq fun W2 hW2=>?_
 have BX2:Hid (Box W2 w.heap.size 172 #[.int .i64 h,.int .i64 l]):=Qd (by rw[hW2];exact set2 BX.out _ _);have BR2:Hid (Box W2 (w.heap.size+1) 172 #[.int .i64 0,.int .i64 0]):=Qd (by rw[hW2];exact(BR.out.far (by simp) _).far (by simp) _);have HB2:Hid (Below w.heap.size w W2):=Qd (by rw[hW2];exact Y9 HB.out (Xa _) _ _);clear hW2 BX BR HB c1 c2 c3 c4 e32;have h30:IntKind.i64.wrap 30=30:=by decide
 obtain⟨c1,c2,c3,c4⟩:=Ul9 BX2.out;obtain⟨d1,d2,d3,d4⟩:=Ul9 BR2.out;go_region_held3 (fun w'=>w'.cell? ⟨w.heap.size,0,none⟩=some (.int .i64 h)∧w'.cell? ⟨w.heap.size,1,none⟩=some (.int .i64 l))
  (first|exact⟨c1,c2⟩|exact⟨((BX2.out.drew.far (by simp) _).far (by simp) _).cell 0,((BX2.out.drew.far (by simp) _).far (by simp) _).cell 1⟩) (fail)
 go_wp2_with fail;exact Xk (results_cell_row results198 _ _ (w.heap.size+1) 172 _ (0,0) _ rfl (set2 BR2.out.drew _ _) underlying172 rfl Uao) rfl ⟨rfl,Y9 (Ue HB2.out 1) (by omega) _ _⟩
end Go.Proofs.YtdaflmjfeoacaaaGreat
