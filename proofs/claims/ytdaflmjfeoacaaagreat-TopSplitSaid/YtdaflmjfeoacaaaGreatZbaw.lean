/- Part of the proof of TopTry, TopSplit: FiD, RgL. Conditions: none. -/
import Derived.Test.YtdaflmjfeoacaaaGreatZbav
set_option linter.all false
set_option maxHeartbeats 16000000
set_option maxRecDepth 4000
namespace Go.Proofs.YtdaflmjfeoacaaaGreat
open Tryz
open Go.RowKit
structure Wrk where
 x:Sta
 v:V3
 dt:Int
 f:Bool
def Wrk.list (k:Wrk):List Value:=k.x.list++[.int .i64 k.v.x,.int .i64 k.v.y,.int .i64 k.v.z,.int .i64 k.dt,.bool k.f]
def Wrk.cells (k:Wrk):Array Value:=k.list.toArray
def Ue0 (v:Value)(b:Nat)(k:Wrk)(w:World)(e:Ending)(w':World):Prop:=e = .returned v∧Box w' b 187 k.cells∧w.grownBy w' (some b)
section
variable {w:World} {b:Nat} {t:TypeId} {k:Wrk}
theorem Ugk (h:Box w b t k.cells):w.cell? ⟨b,29,none⟩=some (.int .i64 k.v.x)∧w.cell? ⟨b,30,none⟩=some (.int .i64 k.v.y)∧w.cell? ⟨b,31,none⟩=some (.int .i64 k.v.z)∧w.cell? ⟨b,32,none⟩=some (.int .i64 k.dt):=⟨h.cell 29,h.cell 30,h.cell 31,h.cell 32⟩
theorem U87 (h:Box w b t k.cells):w.cell? ⟨b,3,none⟩=some (.int .i64 k.x.pose.q.w)∧w.cell? ⟨b,4,none⟩=some (.int .i64 k.x.pose.q.x)∧w.cell? ⟨b,5,none⟩=some (.int .i64 k.x.pose.q.y)∧w.cell? ⟨b,6,none⟩=some (.int .i64 k.x.pose.q.z):=⟨h.cell 3,h.cell 4,h.cell 5,h.cell 6⟩
theorem U5m (h:Box w b t k.cells):w.cell? ⟨b,33,none⟩=some (.bool k.f)∧w.frozen? ⟨b,33,none⟩=false:=⟨h.cell 33,h.frozen 33⟩
theorem U88 (h:Box w b t k.cells):w.cell? ⟨b,0,none⟩=some (.int .i64 k.x.t)∧w.frozen? ⟨b,0,none⟩=false:=⟨h.cell 0,h.frozen 0⟩
theorem U89 (h:Box w b t k.cells):w.cell? ⟨b,1,none⟩=some (.int .i64 k.x.n)∧w.frozen? ⟨b,1,none⟩=false:=⟨h.cell 1,h.frozen 1⟩
theorem U7p (h:Box w b t k.cells):w.cell? ⟨b,2,none⟩=some (.int .i64 k.x.out)∧w.frozen? ⟨b,2,none⟩=false:=⟨h.cell 2,h.frozen 2⟩
def Wrk.tail (k:Wrk):List Value:=[.int .i64 k.v.x,.int .i64 k.v.y,.int .i64 k.v.z,.int .i64 k.dt,.bool k.f]
theorem U7q (h:Box w b t k.cells):w.rangeAt b 0 k.x.list:=Box.midRange (A:=[]) (B:=k.x.list) (C:=k.tail) (by simpa [Wrk.cells,Wrk.list,Wrk.tail] using h) rfl
theorem U84 (h:Box w b t k.cells):w.rangeAt b 29 [.int .i64 k.v.x,.int .i64 k.v.y,.int .i64 k.v.z]:=Box.midRange (A:=k.x.list) (C:=[.int .i64 k.dt,.bool k.f]) (by simpa [Wrk.cells,Wrk.list,Wrk.tail] using h) rfl
theorem Uzh (h:Box w b t k.cells):w.rangeAt b 3 k.x.pose.list:=Box.midRange (A:=[.int .i64 k.x.t,.int .i64 k.x.n,.int .i64 k.x.out]) (C:=k.x.x0.list++k.x.x1.list++k.x.x2.list++k.tail) (by simpa [Wrk.cells,Wrk.list,Wrk.tail,Sta.list] using h) rfl
theorem Uzi (h:Box w b t k.cells)(y:Pos):Box (w.setCells b 3 y.list) b t ({ k with x:={ k.x with pose:=y } }:Wrk).cells:=by
 have:=Box.midSet (vs:=y.list) (A:=[.int .i64 k.x.t,.int .i64 k.x.n,.int .i64 k.x.out]) (B:=k.x.pose.list) (C:=k.x.x0.list++k.x.x1.list++k.x.x2.list++k.tail) (o:=3) (w:=w) (g:=b) (t:=t) (by simpa [Wrk.cells,Wrk.list,Wrk.tail,Sta.list] using h) rfl rfl;simpa [Wrk.cells,Wrk.list,Wrk.tail,Sta.list] using this
theorem U4f (h:Box w b t k.cells):w.rangeAt b 11 k.x.x0.list:=Box.midRange (A:=[.int .i64 k.x.t,.int .i64 k.x.n,.int .i64 k.x.out]++k.x.pose.list) (C:=k.x.x1.list++k.x.x2.list++k.tail) (by simpa [Wrk.cells,Wrk.list,Wrk.tail,Sta.list] using h) rfl
theorem Uzj (h:Box w b t k.cells)(y:Axs):Box (w.setCells b 11 y.list) b t ({ k with x:={ k.x with x0:=y } }:Wrk).cells:=by
 have:=Box.midSet (vs:=y.list) (A:=[.int .i64 k.x.t,.int .i64 k.x.n,.int .i64 k.x.out]++k.x.pose.list) (B:=k.x.x0.list) (C:=k.x.x1.list++k.x.x2.list++k.tail) (o:=11) (w:=w) (g:=b) (t:=t) (by simpa [Wrk.cells,Wrk.list,Wrk.tail,Sta.list] using h) rfl rfl;simpa [Wrk.cells,Wrk.list,Wrk.tail,Sta.list] using this
theorem U4g (h:Box w b t k.cells):w.rangeAt b 17 k.x.x1.list:=Box.midRange (A:=[.int .i64 k.x.t,.int .i64 k.x.n,.int .i64 k.x.out]++k.x.pose.list++k.x.x0.list) (C:=k.x.x2.list++k.tail) (by simpa [Wrk.cells,Wrk.list,Wrk.tail,Sta.list] using h) rfl
theorem Uzk (h:Box w b t k.cells)(y:Axs):Box (w.setCells b 17 y.list) b t ({ k with x:={ k.x with x1:=y } }:Wrk).cells:=by
 have:=Box.midSet (vs:=y.list) (A:=[.int .i64 k.x.t,.int .i64 k.x.n,.int .i64 k.x.out]++k.x.pose.list++k.x.x0.list) (B:=k.x.x1.list) (C:=k.x.x2.list++k.tail) (o:=17) (w:=w) (g:=b) (t:=t) (by simpa [Wrk.cells,Wrk.list,Wrk.tail,Sta.list] using h) rfl rfl;simpa [Wrk.cells,Wrk.list,Wrk.tail,Sta.list] using this
theorem U4h (h:Box w b t k.cells):w.rangeAt b 23 k.x.x2.list:=Box.midRange (A:=[.int .i64 k.x.t,.int .i64 k.x.n,.int .i64 k.x.out]++k.x.pose.list++k.x.x0.list++k.x.x1.list) (C:=k.tail) (by simpa [Wrk.cells,Wrk.list,Wrk.tail,Sta.list] using h) rfl
theorem Uzl (h:Box w b t k.cells)(y:Axs):Box (w.setCells b 23 y.list) b t ({ k with x:={ k.x with x2:=y } }:Wrk).cells:=by
 have:=Box.midSet (vs:=y.list) (A:=[.int .i64 k.x.t,.int .i64 k.x.n,.int .i64 k.x.out]++k.x.pose.list++k.x.x0.list++k.x.x1.list) (B:=k.x.x2.list) (C:=k.tail) (o:=23) (w:=w) (g:=b) (t:=t) (by simpa [Wrk.cells,Wrk.list,Wrk.tail,Sta.list] using h) rfl rfl;simpa [Wrk.cells,Wrk.list,Wrk.tail,Sta.list] using this
theorem Uio (h:Box w b t k.cells)(c:Bool):Box (w.setCell ⟨b,33,none⟩ (.bool c)) b t ({ k with f:=c }:Wrk).cells:=h.set_ 33 _
theorem Uzm (h:Box w b t k.cells)(n:Int):Box (w.setCell ⟨b,0,none⟩ (.int .i64 n)) b t ({ k with x:={ k.x with t:=n } }:Wrk).cells:=h.set_ 0 _
theorem Uzn (h:Box w b t k.cells)(n:Int):Box (w.setCell ⟨b,1,none⟩ (.int .i64 n)) b t ({ k with x:={ k.x with n:=n } }:Wrk).cells:=h.set_ 1 _
theorem Uzo (h:Box w b t k.cells)(n:Int):Box (w.setCell ⟨b,2,none⟩ (.int .i64 n)) b t ({ k with x:={ k.x with out:=n } }:Wrk).cells:=h.set_ 2 _
theorem Udi {n o:Nat}(h:Box w b t k.cells)(hn:o+n≤34):w.there b o n:=h.midThere hn
theorem Pos.one (p:Pos):p.list.toArray.all (·.oneCell')=true:=by simp[Pos.list,Value.oneCell']
theorem Axs.one (x:Axs):x.list.toArray.all (·.oneCell')=true:=by simp[Axs.list,Value.oneCell']
end
theorem Usv {b:Nat}{k:Wrk}{w:World}(z r:Int)(H:Box w b 187 k.cells):Calls prog 166 #[.pointer (some ⟨b,0,none⟩),.int .i64 0,.int .i64 z,.int .i64 r] w
  (Ue0 (.tuple #[]) b { k with x:={ k.x with x0:=(Yi k.x.x0 z r 68719476736).1 },f:=k.f&&(Yi k.x.x0 z r 68719476736).2 } w):=by
 have KU:Hid (∀w,Calls prog 193 #[.agg k.x.x0.list.toArray,.int .i64 z,.int .i64 r,.int .i64 68719476736] w (Ub (.tuple #[.agg (Yi k.x.x0 z r 68719476736).1.list.toArray,.bool (Yi k.x.x0 z r 68719476736).2]) w)):=Qd (fun w=>Ugg k.x.x0 z r 68719476736 w);generalize Yi k.x.x0 z r 68719476736=res at *;obtain⟨y,ok⟩:=res;dsimp only at KU ⊢;have R0:=Qd (U4f H);have B0:=Qd H;have OY:=Qd y.one;have SY:Hid ((#[.int .i64 0,.int .i64 0,.int .i64 0,.int .i64 0,.int .i64 0,.bool false]:Array Value).size=y.list.toArray.size):=Qd rfl;generalize hl:k.x.x0.list=l at *;have HL:Hid (l.length=6):=Qd (by rw[←hl];rfl);clear hl H;go_enter func166,ntmps166;go_wp2_with (with_reducible first|refine Yp rfl 49 _ rfl ?_|refine Qh 49 ?_);refine Zr.go b 11 rfl R0.out underlying49 rfl (by rw[HL.out];exact Uy) ?_;go_wp2_with fail;refine(KU.out _).mono ?_;rintro e w1 ⟨rfl,hb⟩;have B1:=Qd (B0.out.kept hb);have HB1:=Qd hb;clear hb B0 R0 KU;go_wp2_with (with_reducible first|refine Yp rfl 49 _ rfl ?_|refine Qh 49 ?_);refine Uf.go w1.heap.size rfl rfl (Box.new _ _ _) Uy SY.out OY.out ?_;go_upto_region 1 with fail
 refine Uq fun W2 hW=>?_
 have A2:Hid (Box W2 w1.heap.size 49 y.list.toArray):=Qd (by rw[hW];exact(Box.new _ _ _).row _);have B2:Hid (Box W2 b 187 k.cells):=Qd (by rw[hW];exact(B1.out.alloc _).row_far (by have:=B1.out.lt;omega) _);have G2:Hid (w.grownBy W2 (some b)):=Qd (by rw[hW];exact Yg (Uc (HB1.out.alloc HB1.out.size _) HB1.out.size _));have hne:b≠w1.heap.size:=by have:=B1.out.lt;omega
 clear hW B1 HB1;generalize w1.heap.size=g at *;refine Xm (S:=fun w'=>w'.rangeAt g 0 y.list) (by kernel_rfl) (A2.out.range) (fun hHeld=>?_);refine Qn 0 (.pointer (some ⟨b,0,none⟩)) ?_;refine Qn 1 (.int .i64 0) ?_;refine Ux (i:=2) (v := .agg y.list.toArray) rfl rfl (by kernel_rfl) (by kernel_rfl) (by kernel_rfl) (fun _ _ _ h=>h)
  (Xn (by rfl) 49 _ rfl g (0) rfl y.list _ (fun _ h=>h) underlying49 rfl Usu) hHeld ?_
 simp only[Qz];refine Qn 3 (.pointer (some ⟨b,0,none⟩)) ?_;refine Qn 4 (.pointer (some ⟨b,0,none⟩)) ?_;refine Qn 5 (.pointer (some ⟨b,11,none⟩)) ?_;refine Qn 6 (.pointer (some ⟨b,11,none⟩)) ?_;refine Ut fun W3 hW3=>?_
 have A3:Hid (Box W3 g 49 y.list.toArray):=Qd (by rw[hW3];exact A2.out.drew);have B3:Hid (Box W3 b 187 k.cells):=Qd (by rw[hW3];exact B2.out.drew);have G3:Hid (w.grownBy W3 (some b)):=Qd (by rw[hW3];exact Un G2.out (Ufp _ _));clear hW3 A2 B2 G2;refine Qc 7 fun KQ hKQ=>?_
 rw[if_pos (by rfl)];refine wp_store_mid 49 _ _ rfl b 11 y.list.toArray rfl rfl (Udi (n:=6) B3.out (by omega)) Uy y.one ?_;refine hKQ.out _ _ (A3.out.farCells (fun e=>hne e.symm) _ _).range (fun hHeld=>?_);clear hKQ KQ;refine Xl (by kernel_rfl) ?_ _;refine Yn fun W4 hW4=>?_
 have B4:Hid (Box W4 b 187 ({ k with x:={ k.x with x0:=y } }:Wrk).cells):=Qd (by rw[hW4];exact Uzj B3.out y);have G4:Hid (w.grownBy W4 (some b)):=Qd (by rw[hW4];exact Un G3.out (Yf b _ _ _));clear hW4 hHeld A3 B3 G3;have c33:=(U5m B4.out).1;have f33:=(U5m B4.out).2;dsimp only at c33 f33;generalize hkf:k.f=kf at *;have HKF:=Qd hkf;clear hkf;cases kf
 ·go_wp2_with fail;refine Xk (results_none rfl _ _ _) rfl ⟨rfl,?_⟩;exact⟨Uio B4.out false,Un G4.out (Uh _ _ _ _)⟩
 ·go_wp2_with fail;refine Xk (results_none rfl _ _ _) rfl ⟨rfl,?_⟩;exact⟨Uio B4.out ok,Un G4.out (Uh _ _ _ _)⟩
theorem Usw {b:Nat}{k:Wrk}{w:World}(z r:Int)(H:Box w b 187 k.cells):Calls prog 166 #[.pointer (some ⟨b,0,none⟩),.int .i64 1,.int .i64 z,.int .i64 r] w
  (Ue0 (.tuple #[]) b { k with x:={ k.x with x1:=(Yi k.x.x1 z r 68719476736).1 },f:=k.f&&(Yi k.x.x1 z r 68719476736).2 } w):=by
 have KU:Hid (∀w,Calls prog 193 #[.agg k.x.x1.list.toArray,.int .i64 z,.int .i64 r,.int .i64 68719476736] w (Ub (.tuple #[.agg (Yi k.x.x1 z r 68719476736).1.list.toArray,.bool (Yi k.x.x1 z r 68719476736).2]) w)):=Qd (fun w=>Ugg k.x.x1 z r 68719476736 w);generalize Yi k.x.x1 z r 68719476736=res at *;obtain⟨y,ok⟩:=res;dsimp only at KU ⊢;have R0:=Qd (U4g H);have B0:=Qd H;have OY:=Qd y.one;have SY:Hid ((#[.int .i64 0,.int .i64 0,.int .i64 0,.int .i64 0,.int .i64 0,.bool false]:Array Value).size=y.list.toArray.size):=Qd rfl;generalize hl:k.x.x1.list=l at *;have HL:Hid (l.length=6):=Qd (by rw[←hl];rfl);clear hl H;go_enter func166,ntmps166;go_wp2_with (with_reducible first|refine Yp rfl 49 _ rfl ?_|refine Qh 49 ?_);refine Zr.go b 17 rfl R0.out underlying49 rfl (by rw[HL.out];exact Uy) ?_;go_wp2_with fail;refine(KU.out _).mono ?_;rintro e w1 ⟨rfl,hb⟩;have B1:=Qd (B0.out.kept hb);have HB1:=Qd hb;clear hb B0 R0 KU;go_wp2_with (with_reducible first|refine Yp rfl 49 _ rfl ?_|refine Qh 49 ?_);refine Uf.go w1.heap.size rfl rfl (Box.new _ _ _) Uy SY.out OY.out ?_;go_upto_region 1 with fail
 refine Uq fun W2 hW=>?_
 have A2:Hid (Box W2 w1.heap.size 49 y.list.toArray):=Qd (by rw[hW];exact(Box.new _ _ _).row _);have B2:Hid (Box W2 b 187 k.cells):=Qd (by rw[hW];exact(B1.out.alloc _).row_far (by have:=B1.out.lt;omega) _);have G2:Hid (w.grownBy W2 (some b)):=Qd (by rw[hW];exact Yg (Uc (HB1.out.alloc HB1.out.size _) HB1.out.size _));have hne:b≠w1.heap.size:=by have:=B1.out.lt;omega
 clear hW B1 HB1;generalize w1.heap.size=g at *;refine Xm (S:=fun w'=>w'.rangeAt g 0 y.list) (by kernel_rfl) (A2.out.range) (fun hHeld=>?_);refine Qn 0 (.pointer (some ⟨b,0,none⟩)) ?_;refine Qn 1 (.int .i64 1) ?_;refine Ux (i:=2) (v := .agg y.list.toArray) rfl rfl (by kernel_rfl) (by kernel_rfl) (by kernel_rfl) (fun _ _ _ h=>h)
  (Xn (by rfl) 49 _ rfl g (0) rfl y.list _ (fun _ h=>h) underlying49 rfl Usu) hHeld ?_
 simp only[Qz];refine Qn 3 (.pointer (some ⟨b,0,none⟩)) ?_;refine Qn 4 (.pointer (some ⟨b,0,none⟩)) ?_;refine Qn 5 (.pointer (some ⟨b,11,none⟩)) ?_;refine Qn 6 (.pointer (some ⟨b,17,none⟩)) ?_;refine Ut fun W3 hW3=>?_
 have A3:Hid (Box W3 g 49 y.list.toArray):=Qd (by rw[hW3];exact A2.out.drew);have B3:Hid (Box W3 b 187 k.cells):=Qd (by rw[hW3];exact B2.out.drew);have G3:Hid (w.grownBy W3 (some b)):=Qd (by rw[hW3];exact Un G2.out (Ufp _ _));clear hW3 A2 B2 G2;refine Qc 7 fun KQ hKQ=>?_
 rw[if_pos (by rfl)];refine wp_store_mid 49 _ _ rfl b 17 y.list.toArray rfl rfl (Udi (n:=6) B3.out (by omega)) Uy y.one ?_;refine hKQ.out _ _ (A3.out.farCells (fun e=>hne e.symm) _ _).range (fun hHeld=>?_);clear hKQ KQ;refine Xl (by kernel_rfl) ?_ _;refine Yn fun W4 hW4=>?_
 have B4:Hid (Box W4 b 187 ({ k with x:={ k.x with x1:=y } }:Wrk).cells):=Qd (by rw[hW4];exact Uzk B3.out y);have G4:Hid (w.grownBy W4 (some b)):=Qd (by rw[hW4];exact Un G3.out (Yf b _ _ _));clear hW4 hHeld A3 B3 G3;have c33:=(U5m B4.out).1;have f33:=(U5m B4.out).2;dsimp only at c33 f33;generalize hkf:k.f=kf at *;have HKF:=Qd hkf;clear hkf;cases kf
 ·go_wp2_with fail;refine Xk (results_none rfl _ _ _) rfl ⟨rfl,?_⟩;exact⟨Uio B4.out false,Un G4.out (Uh _ _ _ _)⟩
 ·go_wp2_with fail;refine Xk (results_none rfl _ _ _) rfl ⟨rfl,?_⟩;exact⟨Uio B4.out ok,Un G4.out (Uh _ _ _ _)⟩
theorem Uln {b:Nat}{k:Wrk}{w:World}(z r:Int)(H:Box w b 187 k.cells):Calls prog 166 #[.pointer (some ⟨b,0,none⟩),.int .i64 2,.int .i64 z,.int .i64 r] w
  (Ue0 (.tuple #[]) b { k with x:={ k.x with x2:=(Yi k.x.x2 z r 68719476736).1 },f:=k.f&&(Yi k.x.x2 z r 68719476736).2 } w):=by
 have KU:Hid (∀w,Calls prog 193 #[.agg k.x.x2.list.toArray,.int .i64 z,.int .i64 r,.int .i64 68719476736] w (Ub (.tuple #[.agg (Yi k.x.x2 z r 68719476736).1.list.toArray,.bool (Yi k.x.x2 z r 68719476736).2]) w)):=Qd (fun w=>Ugg k.x.x2 z r 68719476736 w);generalize Yi k.x.x2 z r 68719476736=res at *;obtain⟨y,ok⟩:=res;dsimp only at KU ⊢;have R0:=Qd (U4h H);have B0:=Qd H;have OY:=Qd y.one;have SY:Hid ((#[.int .i64 0,.int .i64 0,.int .i64 0,.int .i64 0,.int .i64 0,.bool false]:Array Value).size=y.list.toArray.size):=Qd rfl;generalize hl:k.x.x2.list=l at *;have HL:Hid (l.length=6):=Qd (by rw[←hl];rfl);clear hl H;go_enter func166,ntmps166;go_wp2_with (with_reducible first|refine Yp rfl 49 _ rfl ?_|refine Qh 49 ?_);refine Zr.go b 23 rfl R0.out underlying49 rfl (by rw[HL.out];exact Uy) ?_;go_wp2_with fail;refine(KU.out _).mono ?_;rintro e w1 ⟨rfl,hb⟩;have B1:=Qd (B0.out.kept hb);have HB1:=Qd hb;clear hb B0 R0 KU;go_wp2_with (with_reducible first|refine Yp rfl 49 _ rfl ?_|refine Qh 49 ?_);refine Uf.go w1.heap.size rfl rfl (Box.new _ _ _) Uy SY.out OY.out ?_;go_upto_region 1 with fail
 refine Uq fun W2 hW=>?_
 have A2:Hid (Box W2 w1.heap.size 49 y.list.toArray):=Qd (by rw[hW];exact(Box.new _ _ _).row _);have B2:Hid (Box W2 b 187 k.cells):=Qd (by rw[hW];exact(B1.out.alloc _).row_far (by have:=B1.out.lt;omega) _);have G2:Hid (w.grownBy W2 (some b)):=Qd (by rw[hW];exact Yg (Uc (HB1.out.alloc HB1.out.size _) HB1.out.size _));have hne:b≠w1.heap.size:=by have:=B1.out.lt;omega
 clear hW B1 HB1;generalize w1.heap.size=g at *;refine Xm (S:=fun w'=>w'.rangeAt g 0 y.list) (by kernel_rfl) (A2.out.range) (fun hHeld=>?_);refine Qn 0 (.pointer (some ⟨b,0,none⟩)) ?_;refine Qn 1 (.int .i64 2) ?_;refine Ux (i:=2) (v := .agg y.list.toArray) rfl rfl (by kernel_rfl) (by kernel_rfl) (by kernel_rfl) (fun _ _ _ h=>h)
  (Xn (by rfl) 49 _ rfl g (0) rfl y.list _ (fun _ h=>h) underlying49 rfl Usu) hHeld ?_
 simp only[Qz];refine Qn 3 (.pointer (some ⟨b,0,none⟩)) ?_;refine Qn 4 (.pointer (some ⟨b,0,none⟩)) ?_;refine Qn 5 (.pointer (some ⟨b,11,none⟩)) ?_;refine Qn 6 (.pointer (some ⟨b,23,none⟩)) ?_;refine Ut fun W3 hW3=>?_
 have A3:Hid (Box W3 g 49 y.list.toArray):=Qd (by rw[hW3];exact A2.out.drew);have B3:Hid (Box W3 b 187 k.cells):=Qd (by rw[hW3];exact B2.out.drew);have G3:Hid (w.grownBy W3 (some b)):=Qd (by rw[hW3];exact Un G2.out (Ufp _ _));clear hW3 A2 B2 G2;refine Qc 7 fun KQ hKQ=>?_
 rw[if_pos (by rfl)];refine wp_store_mid 49 _ _ rfl b 23 y.list.toArray rfl rfl (Udi (n:=6) B3.out (by omega)) Uy y.one ?_;refine hKQ.out _ _ (A3.out.farCells (fun e=>hne e.symm) _ _).range (fun hHeld=>?_);clear hKQ KQ;refine Xl (by kernel_rfl) ?_ _;refine Yn fun W4 hW4=>?_
 have B4:Hid (Box W4 b 187 ({ k with x:={ k.x with x2:=y } }:Wrk).cells):=Qd (by rw[hW4];exact Uzl B3.out y);have G4:Hid (w.grownBy W4 (some b)):=Qd (by rw[hW4];exact Un G3.out (Yf b _ _ _));clear hW4 hHeld A3 B3 G3;have c33:=(U5m B4.out).1;have f33:=(U5m B4.out).2;dsimp only at c33 f33;generalize hkf:k.f=kf at *;have HKF:=Qd hkf;clear hkf;cases kf
 ·go_wp2_with fail;refine Xk (results_none rfl _ _ _) rfl ⟨rfl,?_⟩;exact⟨Uio B4.out false,Un G4.out (Uh _ _ _ _)⟩
 ·go_wp2_with fail;refine Xk (results_none rfl _ _ _) rfl ⟨rfl,?_⟩;exact⟨Uio B4.out ok,Un G4.out (Uh _ _ _ _)⟩
open Go.RowKit
section
variable {P:Program} {ops:Array Oper} {md:Region.Mode}
def Ulo (P:Program)(ops:Array Oper)(Q:Exit→Act→World→Prop)(L:Nat):Exit→Act→World→Prop
 | .normal,a,w=>wpOp P ops Q L (fun a w=>Q .normal a w) a w
 | e,a,w=>Q e a w
def Uv8 (md:Region.Mode)(ops:Array Oper)(pre:Array Bool)(L:Nat):Prop :=
 ∀j,pre.getD j true=false→∃oj,ops[j]? = some oj∧(∀e∈oj.after,Region.binds md e=true→e.on≠L∧e.on<j)∧(j=L∨∃k ok,pre.getD k true=false∧ops[k]? = some ok∧∃e∈ok.after,Region.binds md e=true∧e.on=j)
def Uzp (md:Region.Mode)(ops:Array Oper)(pre:Array Bool)(j k:Nat):Bool :=
 !(pre.getD k true)&&match ops[k]? with
  | some ok=>ok.after.any fun e=>Region.binds md e&&e.on==j
  | none=>false
def U5n (md:Region.Mode)(ops:Array Oper)(pre:Array Bool)(L:Nat):Bool :=
 (List.range pre.size).all fun j=>pre.getD j true ||
  match ops[j]? with
  | some oj=>(oj.after.all fun e => !Region.binds md e||(e.on != L&&decide (e.on<j)))&&(j==L||(List.range pre.size).any (Uzp md ops pre j))
  | none=>false
theorem Ucs {l:Array Bool}{j:Nat}(hj:l.getD j true=false):j<l.size:=by
 rcases Nat.lt_or_ge j l.size with h'|h'
 ·exact h'
 ·simp[Array.getElem?_eq_none h'] at hj
theorem Usx {pre:Array Bool}{j k:Nat}(h:Uzp md ops pre j k=true):∃ok,pre.getD k true=false∧ops[k]? = some ok∧∃e∈ok.after,Region.binds md e=true∧e.on=j:=by
 unfold Uzp at h;rw[Bool.and_eq_true,Bool.not_eq_true'] at h;cases ho:ops[k]? with
 | none=>rw[ho] at h;exact absurd h.2 (by simp)
 | some ok =>
  rw[ho] at h;obtain⟨i,hi,h3⟩:=Array.any_eq_true.1 h.2;have he:=Array.getElem_mem hi;generalize ok.after[i]=e at *;simp only[Bool.and_eq_true,beq_iff_eq] at h3;exact⟨ok,h.1,rfl,e,he,h3⟩
theorem Una {pre:Array Bool}{L:Nat}(h:U5n md ops pre L=true):Uv8 md ops pre L:=by
 intro j hj;have h1:=List.all_eq_true.1 h j (List.mem_range.2 (Ucs hj));rw[hj,Bool.false_or] at h1;cases ho:ops[j]? with
 | none=>simp[ho] at h1
 | some oj =>
  simp only[ho,Bool.and_eq_true,Array.all_eq_true_iff_forall_mem,Bool.or_eq_true,Bool.not_eq_true',bne_iff_ne,decide_eq_true_eq,beq_iff_eq] at h1;refine⟨oj,rfl,fun e he hb=>?_,?_⟩
  ·rcases h1.1 e he with h2|h2
   ·rw[hb] at h2;cases h2
   ·exact h2
  ·rcases h1.2 with h2|h2
   ·exact Or.inl h2
   ·obtain⟨k,_,hk⟩:=List.any_eq_true.1 h2;obtain⟨ok,h3⟩:=Usx hk;exact Or.inr ⟨k,ok,h3⟩
structure U1y (md:Region.Mode) (ops:Array Oper) (pre listed:Array Bool):Prop where
 size:listed.size=pre.size
 grow:∀j,listed.getD j true=false→pre.getD j true=false
 down:∀k ok,pre.getD k true=false→ops[k]? = some ok→listed.getD k true=true→∀e∈ok.after,Region.binds md e=true→listed.getD e.on false=true
theorem Uqj {l:Array Bool}{k:Nat}(h:l.getD k false=true):l.getD k true=true:=by
 rcases Nat.lt_or_ge k l.size with h'|h'
 ·simpa [h'] using h
 ·simp[h']
theorem Uf2 {l:Array Bool}{i j:Nat}(h:(l.setIfInBounds i true).getD j true=false):l.getD j true=false:=by
 by_cases hij:i=j
 ·subst hij;have:=Ucs h;simp at this;simp[this] at h
 ·rwa [getD_set_ne true hij] at h
theorem U1y.step {pre listed:Array Bool}{j:Nat}(H:U1y md ops pre listed)(hj:j∈Region.ready md ops listed):U1y md ops pre (listed.setIfInBounds j true):=by
 refine⟨by rw[Array.size_setIfInBounds];exact H.size,fun k hk=>H.grow k (Uf2 hk),fun k ok hp ho hk e he hb=>?_⟩;by_cases hjk:j=k
 ·subst hjk;obtain⟨_,o',ho',h5⟩:=mem_ready.1 hj;rw[ho] at ho';cases ho';exact getD_set_true (h5 e he hb)
 ·rw[getD_set_ne true hjk] at hk;exact getD_set_true (H.down k ok hp ho hk e he hb)
theorem Uzq {listed:Array Bool}{j k:Nat}(hj:listed.getD j true=false)(hk:k<j)(h:listed.getD k true=true):listed.getD k false=true:=by
 have hlt:=Ucs hj;have hk':k<listed.size:=by omega
 simpa [hk'] using h
theorem Uv8.ready {pre listed:Array Bool}{L:Nat}(h:Uv8 md ops pre L)(H:U1y md ops pre listed):∀j,listed.getD j true=false→Region.ready md ops listed≠[]:=by
 intro j
 induction j using Nat.strongRecOn with
 | ind j ih =>
  intro hj he;obtain⟨oj,ho,hall,_⟩:=h j (H.grow j hj)
  have:j∈Region.ready md ops listed:=mem_ready.2 ⟨hj,oj,ho,fun e hm hb=>by
   have h2:=(hall e hm hb).2;cases h3:listed.getD e.on true with
   | true=>exact Uzq hj h2 h3
   | false=>exact absurd he (ih e.on h2 h3)⟩
  rw[he] at this;cases this
theorem Uv8.all {pre listed:Array Bool}{L:Nat}(h:Uv8 md ops pre L)(H:U1y md ops pre listed)(hL:L∈Region.ready md ops listed):∀n j,listed.size-j≤n→j≠L→listed.getD j true=true:=by
 intro n
 induction n with
 | zero =>
   intro j hn _;cases hj:listed.getD j true with
   | true=>rfl
   | false=>have:=Ucs hj;omega
 | succ n ih =>
   intro j hn hne;cases hj:listed.getD j true with
   | true=>rfl
   | false =>
    exfalso
    obtain⟨oj,ho,hall,hw⟩:=h j (H.grow j hj);rcases hw with rfl|⟨k,ok,hk,hok,e,he,hb,rfl⟩
    ·exact hne rfl
    ·have hlt:e.on<k:=by
      obtain⟨ok',ho',h1,_⟩:=h k hk;rw[hok] at ho';cases ho';exact(h1 e he hb).2
     have hd:listed.getD e.on false=true:=by
      by_cases hkL:k=L
      ·subst hkL;obtain⟨_,o',ho',h5⟩:=mem_ready.1 hL;rw[hok] at ho';cases ho';exact h5 e he hb
      ·have:=Ucs hj;exact H.down k ok hk hok (ih k (by omega) hkL) e he hb
     rw[Uqj hd] at hj;cases hj
theorem Uv9 {Q Q':Exit→Act→World→Prop}(hq:∀e a w,e ≠ .normal→Q' e a w→Q e a w){i:Nat}{K:Act→World→Prop}{a:Act}{w:World}(h:wpOp P ops Q' i K a w):wpOp P ops Q i K a w:=by
 have hl:LetsOut Q'→LetsOut Q:=fun⟨a,w,hh⟩=>⟨a,w,hq _ _ _ (by simp) hh⟩
 unfold wpOp at *;cases ho:ops[i]? with
 | none=>simpa [ho] using h
 | some o =>
  simp only[ho] at h ⊢;split
  ·rename_i hw;simp only[hw,if_true] at h;refine h.imp (fun h=>?_) (fun h=>⟨h.1,hl h.2⟩);unfold Oper.wp at *;generalize (execOp a.eval o).run P w=r at *;cases r with
   | ok n w' =>
    cases n<;>simp only[Oper.upon] at h ⊢
    case value u=>exact h
    case skip=>exact h
    case defer d=>exact h
    case enter f args =>
     refine Calls.mono h fun e w'' he=>?_
     cases e with
     | returned u=>exact he
     | panicked c=>exact hq _ _ _ (by simp) he
     | outgrown=>exact hl he
    case row row args=>exact h
   | halt x w' =>
    cases x<;>simp only[Oper.upon] at h ⊢
    case panic u=>exact hq _ _ _ (by simp) h
  ·rename_i hw;simpa [hw] using h
theorem Uou {Q:Exit→Act→World→Prop}{L:Nat}:∀e a w,e ≠ .normal→Ulo P ops Q L e a w→Q e a w:=by
 intro e a w he h;cases e<;>first|exact h|exact absurd rfl he
theorem Unb {Q:Exit→Act→World→Prop}{L:Nat}{pre:Array Bool}(hP:Uv8 md ops pre L):∀(fuel:Nat) (listed:Array Bool) (a:Act) (w:World),U1y md ops pre listed→listed.getD L true=false →
  wpAny P md ops (Ulo P ops Q L) fuel (listed.setIfInBounds L true) a w→wpAny P md ops Q (fuel+1) listed a w:=by
 intro fuel
 induction fuel with
 | zero =>
  intro listed a w HC hL H;refine⟨fun h=>absurd h (hP.ready HC L hL),fun j hj=>?_⟩;by_cases hji:j=L
  ·subst hji;exact wpOp_mono (fun a' w' h=>⟨H.1,h⟩) H.2
  ·have:=ready_mono hj hji;rw[H.1] at this;cases this
 | succ fuel ih =>
  intro listed a w HC hL H;refine⟨fun h=>absurd h (hP.ready HC L hL),fun j hj=>?_⟩;by_cases hji:j=L
  ·subst hji;have hr:Region.ready md ops (listed.setIfInBounds j true)=[]:=by
    apply List.eq_nil_iff_forall_not_mem.2;intro k hk;have h1:=(mem_ready.1 hk).1;have h2:=Uf2 h1;by_cases hkj:k=j
    ·subst hkj;have:=Ucs h2;simp[this] at h1
    ·rw[hP.all HC hj _ k (Xa _) hkj] at h2;cases h2
   exact wpOp_mono (fun a' w' h=>wpAny_done hr h _) (H.1 hr)
  ·have h1:=Uv9 (Uou (Q:=Q)) (H.2 j (ready_mono hj hji));refine wpOp_mono (fun a' w' h=>?_) h1;refine ih (listed.setIfInBounds j true) a' w' (HC.step hj) ?_ ?_
   ·rw[getD_set_ne true hji];exact hL
   ·rw[Array.setIfInBounds_comm _ _ hji];exact h
theorem U1y.start (pre:Array Bool):U1y md ops pre pre:=⟨rfl,fun _ h=>h,fun k ok h1 _ h2=>by rw[h1] at h2;cases h2⟩
theorem Uk {Q:Exit→Act→World→Prop}{S:World→Prop}{id:Nat}{a:Act}{w:World}(L n:Nat)(hm:P.follows .mixedOrders=true)(hn:ops.size=n+1)(hL:U5n .any ops (Array.replicate ops.size false) L=true)(hl:L<ops.size)(hS:S w.drew)
  (h:S w.drew→wpAnyH P .any ops (Ulo P ops Q L) S n ((Array.replicate ops.size false).setIfInBounds L true) a w.drew):(Code.region id ops true).wp P Q a w:=by
 refine wp_region_any hm ?_;have:=Unb (Una hL) n (Array.replicate ops.size false) a w.drew (U1y.start _) (by simp[hl]) (wpAny_of_held _ _ _ _ (h hS));rw[←hn] at this;exact this
theorem U4 {Q:Exit→Act→World→Prop}{L:Nat}{o:Oper}{a:Act}{w:World}(ho:ops[L]? = some o)(hw:Region.wanted o (yielded ops a.tmps)=true)(h:Oper.wp P o a w (fun a w=>Q .normal a w) Q):Ulo P ops Q L .normal a w:=by
 show wpOp P ops Q L _ a w;unfold wpOp;simp only[ho,hw,if_true];exact Or.inl h
end
end Go.Proofs.YtdaflmjfeoacaaaGreat
