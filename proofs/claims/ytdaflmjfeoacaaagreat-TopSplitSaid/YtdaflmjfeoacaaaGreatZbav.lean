/- Part of the proof of TopTry, TopSplit: FiA, FiB, FiC. Conditions: none. -/
import Derived.Test.YtdaflmjfeoacaaaGreatZbat
import Derived.Test.YtdaflmjfeoacaaaGreatZbau
set_option linter.all false
set_option maxHeartbeats 16000000
set_option maxRecDepth 4000
namespace Go.Proofs.YtdaflmjfeoacaaaGreat
open Tryz
open Go.RowKit
structure Sta where
 t:Int
 n:Int
 out:Int
 pose:Pos
 x0:Axs
 x1:Axs
 x2:Axs
deriving DecidableEq
def Pos.list (p:Pos):List Value:=[.int .i64 p.q.w,.int .i64 p.q.x,.int .i64 p.q.y,.int .i64 p.q.z,.int .i64 p.w.x,.int .i64 p.w.y,.int .i64 p.w.z,.bool p.bad]
def Axs.list (x:Axs):List Value:=[.int .i64 x.p,.int .i64 x.v,.int .i64 x.pp,.int .i64 x.pv,.int .i64 x.vv,.bool x.bad]
def Sta.list (x:Sta):List Value:=[.int .i64 x.t,.int .i64 x.n,.int .i64 x.out]++x.pose.list++(x.x0.list++x.x1.list++x.x2.list)
def Sta.cells (x:Sta):Array Value:=x.list.toArray
def stv (x:Sta):Value := .agg x.cells
def Ua0 (n:Int):Prop:=0≤n∧n≤1099511627776
instance (n:Int):Decidable (Ua0 n):=by unfold Ua0;exact inferInstance
def Ual (x:Sta):Prop:=Ua0 x.t∧Ua0 x.n∧Ua0 x.out∧Uce x.pose∧Zg x.x0∧Zg x.x1∧Zg x.x2
instance (x:Sta):Decidable (Ual x):=by unfold Ual;exact inferInstance
theorem Yj:(prog.info? 52).map (·.size)=some 29:=by kernel_rfl
theorem Sta.one (x:Sta):x.cells.all (·.oneCell')=true:=by simp[Sta.cells,Sta.list,Pos.list,Axs.list,Value.oneCell']
section
variable {w:World} {g:Nat} {t:TypeId} {x:Sta}
theorem Ull (h:Box w g t x.cells):w.cell? ⟨g,0,none⟩=some (.int .i64 x.t)∧w.cell? ⟨g,1,none⟩=some (.int .i64 x.n)∧w.cell? ⟨g,2,none⟩=some (.int .i64 x.out):=⟨h.cell 0,h.cell 1,h.cell 2⟩
theorem U7m (h:Box w g t x.cells):w.rangeAt g 11 x.x0.list:=Box.midRange (A:=[.int .i64 x.t,.int .i64 x.n,.int .i64 x.out]++x.pose.list) (C:=x.x1.list++x.x2.list) (by simpa [Sta.cells,Sta.list] using h) rfl
theorem U7n (h:Box w g t x.cells):w.rangeAt g 17 x.x1.list:=Box.midRange (A:=[.int .i64 x.t,.int .i64 x.n,.int .i64 x.out]++x.pose.list++x.x0.list) (C:=x.x2.list) (by simpa [Sta.cells,Sta.list] using h) rfl
theorem U7o (h:Box w g t x.cells):w.rangeAt g 23 x.x2.list:=Box.midRange (A:=[.int .i64 x.t,.int .i64 x.n,.int .i64 x.out]++x.pose.list++x.x0.list++x.x1.list) (C:=[]) (by simpa [Sta.cells,Sta.list] using h) rfl
end
def Zr (P:Program)(ops:Array Oper)(Q:Exit→Act→World→Prop)(rest:List Oper)(o:Oper)(ty:TypeId)(x:Operand)(a:Act)(w:World):Prop :=
 ∃(g off:Nat) (cs:List Value) (d:TypeDesc),a.eval x = .pointer (some ⟨g,off,none⟩)∧w.rangeAt g off cs∧P.underlying ty=some d∧d.isRow=true∧(P.info? ty).map (·.size)=some cs.length∧wpList P ops Q rest (a.put o.dst (.agg cs.toArray)) w
theorem Yp {P:Program}{w:World}{ops:Array Oper}{rest:List Oper}{o:Oper}{a:Act}{Q:Exit→Act→World→Prop}(hgd:o.guard=none)(ty:TypeId)(x:Operand)(ho:o.op = .load ty x)
  (h:Zr P ops Q rest o ty x a w):wpList P ops Q (o::rest) a w:=by
 obtain⟨g,off,cs,d,hx,hc,hu,hd,hi,h⟩:=h;exact wpList_load_mid hgd ty x ho g off hx cs d hc hu hd hi h
theorem Zr.go {P:Program}{w:World}{ops:Array Oper}{rest:List Oper}{o:Oper}{a:Act}{Q:Exit→Act→World→Prop}{ty:TypeId}{x:Operand}(g off:Nat){cs:List Value}{d:TypeDesc}(hx:a.eval x = .pointer (some ⟨g,off,none⟩))
  (hc:w.rangeAt g off cs) (hu:P.underlying ty=some d) (hd:d.isRow=true) (hi:(P.info? ty).map (·.size)=some cs.length) (h:wpList P ops Q rest (a.put o.dst (.agg cs.toArray)) w):Zr P ops Q rest o ty x a w :=
 ⟨g,off,cs,d,hx,hc,hu,hd,hi,h⟩
theorem Ugh (n:Int)(w:World):Calls prog 23 #[.int .i64 n] w (Ub (.bool (decide (Ua0 n))) w):=by
 by_cases h1:0≤n;rotate_right
 focus
  have e1:decide (0≤n)=false:=Xh h1;have F:Hid (decide (Ua0 n)=false):=Qd (by unfold Ua0;simp[h1])
 rotate_right
 focus
  have e1:decide (0≤n)=true:=Xi h1;obtain⟨b,hb⟩:∃b,decide (n≤1099511627776)=b:=⟨_,rfl⟩;have F:Hid (decide (Ua0 n)=b):=Qd (by unfold Ua0;rw[←hb];simp[h1])
 all_goals
  rw[F.out];clear h1 F;go_enter func23,ntmps23;go_wp2_with fail;go_ret;exact⟨rfl,Xb _ _⟩
theorem Ulm (x:Axs)(w:World):Calls prog 21 #[axv x] w (Ub (.bool (!decide (Zg x))) w):=by
 have K:=Qd (fun w=>Um8 x w);generalize decide (Zg x)=s at *;have H0:Hid (Below w.heap.size w (w.alloc (.cells x.cells 49))):=Qd ((Xb _ w).alloc (Xa _) _);have B0:=Qd (Box.new w 49 x.cells);obtain⟨x0,x1,x2,x3,x4,x5⟩:=x;dsimp only[axv,Axs.cells] at K H0 B0 ⊢;go_enter func21,ntmps21;go_wp2_with fail;refine(K.out _).mono ?_;rintro e w1 ⟨rfl,hb⟩;have H1:=Qd (Ua H0.out hb H0.out.size);clear hb;go_wp2_with fail;go_ret;exact⟨rfl,H1.out⟩
theorem Uzd {w:World}{g c:Nat}{t:TypeId}{x:Sta}(h:Box w g t x.cells):Calls prog 46 #[.slice (some ⟨g,11,none⟩) 3 c,.func (.func 21) #[] #[]] w
  (fun e w'=>∃r:Int,e = .returned (.int .i64 r)∧decide (0≤r)=(!decide (Zg x.x0)||(!decide (Zg x.x1) || !decide (Zg x.x2)))∧Below w.heap.size w w'):=by
 have K0:=Qd (fun w=>Ulm x.x0 w);have K1:=Qd (fun w=>Ulm x.x1 w);have K2:=Qd (fun w=>Ulm x.x2 w);have R0:Hid (∀W,Below w.heap.size w W→W.rangeAt g 11 x.x0.list):=Qd (fun W hb=>U7m (h.kept hb));have R1:Hid (∀W,Below w.heap.size w W→W.rangeAt g 17 x.x1.list):=Qd (fun W hb=>U7n (h.kept hb));have R2:Hid (∀W,Below w.heap.size w W→W.rangeAt g 23 x.x2.list):=Qd (fun W hb=>U7o (h.kept hb));have HB0:Hid (Below w.heap.size w w):=Qd (Xb _ _);generalize decide (Zg x.x0)=s0 at *;generalize decide (Zg x.x1)=s1 at *;generalize decide (Zg x.x2)=s2 at *;generalize x.x0=y0 at *;generalize x.x1=y1 at *;generalize x.x2=y2 at *;clear h;obtain⟨a0,a1,a2,a3,a4,a5⟩:=y0;obtain⟨b0,b1,b2,b3,b4,b5⟩:=y1;obtain⟨c0,c1,c2,c3,c4,c5⟩:=y2;dsimp only[axv,Axs.cells,Axs.list] at K0 K1 K2 R0 R1 R2;cases s0
 ·go_enter func46,ntmps46;go_wp2_with fail;refine wp_loop_rounds 4 ?_;rw[Xq];go_wp2_with (with_reducible first|refine Yp rfl 49 _ rfl ?_);refine Zr.go g 11 rfl (R0.out _ HB0.out) underlying49 rfl Uy ?_;go_wp2_with fail;refine(K0.out _).mono ?_;rintro e w0 ⟨rfl,hb⟩;have HB1:=Qd (Ua HB0.out hb HB0.out.size);clear hb;go_wp2_with fail;go_ret;exact⟨0,rfl,by simp,HB1.out⟩
 ·cases s1
  ·go_enter func46,ntmps46;go_wp2_with fail;refine wp_loop_rounds 4 ?_;rw[Xq];go_wp2_with (with_reducible first|refine Yp rfl 49 _ rfl ?_);refine Zr.go g 11 rfl (R0.out _ HB0.out) underlying49 rfl Uy ?_;go_wp2_with fail;refine(K0.out _).mono ?_;rintro e w0 ⟨rfl,hb⟩;have HB1:=Qd (Ua HB0.out hb HB0.out.size);clear hb;go_wp2_with fail;rw[Xq];go_wp2_with (with_reducible first|refine Yp rfl 49 _ rfl ?_);refine Zr.go g 17 rfl (R1.out _ HB1.out) underlying49 rfl Uy ?_;go_wp2_with fail;refine(K1.out _).mono ?_;rintro e w1 ⟨rfl,hb⟩;have HB2:=Qd (Ua HB1.out hb HB1.out.size);clear hb;go_wp2_with fail;go_ret;exact⟨1,rfl,by simp,HB2.out⟩
  ·cases s2
   all_goals
    go_enter func46,ntmps46;go_wp2_with fail;refine wp_loop_rounds 4 ?_;rw[Xq];go_wp2_with (with_reducible first|refine Yp rfl 49 _ rfl ?_);refine Zr.go g 11 rfl (R0.out _ HB0.out) underlying49 rfl Uy ?_;go_wp2_with fail;refine(K0.out _).mono ?_;rintro e w0 ⟨rfl,hb⟩;have HB1:=Qd (Ua HB0.out hb HB0.out.size);clear hb;go_wp2_with fail;rw[Xq];go_wp2_with (with_reducible first|refine Yp rfl 49 _ rfl ?_);refine Zr.go g 17 rfl (R1.out _ HB1.out) underlying49 rfl Uy ?_;go_wp2_with fail;refine(K1.out _).mono ?_;rintro e w1 ⟨rfl,hb⟩;have HB2:=Qd (Ua HB1.out hb HB1.out.size);clear hb;go_wp2_with fail;rw[Xq];go_wp2_with (with_reducible first|refine Yp rfl 49 _ rfl ?_);refine Zr.go g 23 rfl (R2.out _ HB2.out) underlying49 rfl Uy ?_;go_wp2_with fail;refine(K2.out _).mono ?_;rintro e w2 ⟨rfl,hb⟩;have HB3:=Qd (Ua HB2.out hb HB2.out.size);clear hb;go_wp2_with fail
   ·go_ret;exact⟨2,rfl,by simp,HB3.out⟩
   ·rw[Xq];go_wp2_with fail;go_ret;exact⟨-1,rfl,by simp,HB3.out⟩
theorem Uze {w:World}{g c:Nat}{t:TypeId}{x:Sta}(h:Box w g t x.cells):Calls prog 25 #[.slice (some ⟨g,11,none⟩) 3 c,.func (.func 21) #[] #[]] w
  (Ub (.bool (!decide (Zg x.x0)||(!decide (Zg x.x1) || !decide (Zg x.x2)))) w):=by
 have K:=Qd (Uzd (c:=c) h);generalize (!decide (Zg x.x0)||(!decide (Zg x.x1) || !decide (Zg x.x2)))=b at *;clear h;go_enter func25,ntmps25;go_wp2_with fail;refine K.out.mono ?_;rintro e w1 ⟨r,rfl,hr,hb⟩;have HB:=Qd hb;clear hb;go_wp2_with fail;go_ret;exact⟨rfl,HB.out⟩
open Tryz
open Go.RowKit
theorem Ucr (x:Sta)(w:World):Calls prog 10 #[stv x] w (Ub (.bool (decide (Ual x))) w):=by
 have KA:=Qd (fun w=>Ugh x.t w);have KN:=Qd (fun w=>Ugh x.n w);have KO:=Qd (fun w=>Ugh x.out w);have KP:=Qd (fun w=>Um7 x.pose w)
 have KX:Hid (∀W,Box W w.heap.size 52 x.cells→Calls prog 25 #[.slice (some ⟨w.heap.size,11,none⟩) 3 3,.func (.func 21) #[] #[]] W
  (Ub (.bool (!decide (Zg x.x0)||(!decide (Zg x.x1) || !decide (Zg x.x2)))) W)):=Qd (fun W h=>Uze h)
 have F:Hid (decide (Ual x)=(decide (Ua0 x.t)&&(decide (Ua0 x.n)&&(decide (Ua0 x.out)&&(decide (Uce x.pose) && !(!decide (Zg x.x0)||(!decide (Zg x.x1) || !decide (Zg x.x2)))))))):=Qd (by
  have e:Ual x↔(Ua0 x.t∧Ua0 x.n∧Ua0 x.out∧Uce x.pose∧Zg x.x0∧Zg x.x1∧Zg x.x2):=Iff.rfl;rw[Bool.eq_iff_iff,decide_eq_true_iff,e]
  simp)
 have CN:Hid (∀W,Box W w.heap.size 52 x.cells→W.cell? ⟨w.heap.size,0,none⟩=some (.int .i64 x.t)∧W.cell? ⟨w.heap.size,1,none⟩=some (.int .i64 x.n)∧W.cell? ⟨w.heap.size,2,none⟩=some (.int .i64 x.out)):=Qd (fun W h=>Ull h);have CP:Hid (∀W,Box W w.heap.size 52 x.cells→W.cell? ⟨w.heap.size,3,none⟩=some (.int .i64 x.pose.q.w)∧W.cell? ⟨w.heap.size,4,none⟩=some (.int .i64 x.pose.q.x)∧W.cell? ⟨w.heap.size,5,none⟩=some (.int .i64 x.pose.q.y)∧W.cell? ⟨w.heap.size,6,none⟩=some (.int .i64 x.pose.q.z)∧W.cell? ⟨w.heap.size,7,none⟩=some (.int .i64 x.pose.w.x)∧W.cell? ⟨w.heap.size,8,none⟩=some (.int .i64 x.pose.w.y)∧W.cell? ⟨w.heap.size,9,none⟩=some (.int .i64 x.pose.w.z)∧W.cell? ⟨w.heap.size,10,none⟩=some (.bool x.pose.bad)) :=
  Qd (fun W h=>⟨h.cell 3,h.cell 4,h.cell 5,h.cell 6,h.cell 7,h.cell 8,h.cell 9,h.cell 10⟩)
 have B0:=Qd (Box.new w 52 x.cells);have H0:Hid (Below w.heap.size w (w.alloc (.cells x.cells 52))):=Qd ((Xb _ w).alloc (Xa _) _);rw[F.out];clear F;dsimp only[stv] at KX ⊢;generalize (!decide (Zg x.x0)||(!decide (Zg x.x1) || !decide (Zg x.x2)))=sx at *;generalize decide (Ua0 x.t)=st at *;generalize decide (Ua0 x.n)=sn at *;generalize decide (Ua0 x.out)=so at *;generalize decide (Uce x.pose)=sp at *;generalize x.cells=cs at *;obtain⟨t,n,o,⟨⟨q0,q1,q2,q3⟩,⟨u0,u1,u2⟩,bd⟩,y0,y1,y2⟩:=x;dsimp only[pv,Pos.cells] at KA KN KO KP CN CP;cases st
 ·go_enter func10,ntmps10;obtain⟨c0,c1,c2⟩:=CN.out _ B0.out;go_wp2_with fail;refine(KA.out _).mono ?_;rintro e w1 ⟨rfl,hb⟩;have B1:=Qd (B0.out.kept hb);have H1:=Qd (Ua H0.out hb H0.out.size);clear hb;go_wp2_with fail;go_ret;exact⟨by simp,H1.out⟩
 ·cases sn
  ·go_enter func10,ntmps10;obtain⟨c0,c1,c2⟩:=CN.out _ B0.out;go_wp2_with fail;refine(KA.out _).mono ?_;rintro e w1 ⟨rfl,hb⟩;have B1:=Qd (B0.out.kept hb);have H1:=Qd (Ua H0.out hb H0.out.size);clear hb;clear c0 c1 c2;obtain⟨c0,c1,c2⟩:=CN.out _ B1.out;go_wp2_with fail;refine(KN.out _).mono ?_;rintro e w2 ⟨rfl,hb⟩;have B2:=Qd (B1.out.kept hb);have H2:=Qd (Ua H1.out hb H1.out.size);clear hb;go_wp2_with fail;go_ret;exact⟨by simp,H2.out⟩
  ·cases so
   ·go_enter func10,ntmps10;obtain⟨c0,c1,c2⟩:=CN.out _ B0.out;go_wp2_with fail;refine(KA.out _).mono ?_;rintro e w1 ⟨rfl,hb⟩;have B1:=Qd (B0.out.kept hb);have H1:=Qd (Ua H0.out hb H0.out.size);clear hb;clear c0 c1 c2;obtain⟨c0,c1,c2⟩:=CN.out _ B1.out;go_wp2_with fail;refine(KN.out _).mono ?_;rintro e w2 ⟨rfl,hb⟩;have B2:=Qd (B1.out.kept hb);have H2:=Qd (Ua H1.out hb H1.out.size);clear hb;clear c0 c1 c2;obtain⟨c0,c1,c2⟩:=CN.out _ B2.out;go_wp2_with fail;refine(KO.out _).mono ?_;rintro e w3 ⟨rfl,hb⟩;have B3:=Qd (B2.out.kept hb);have H3:=Qd (Ua H2.out hb H2.out.size);clear hb;go_wp2_with fail;go_ret;exact⟨by simp,H3.out⟩
   ·cases sp
    all_goals
     go_enter func10,ntmps10;obtain⟨c0,c1,c2⟩:=CN.out _ B0.out;go_wp2_with fail;refine(KA.out _).mono ?_;rintro e w1 ⟨rfl,hb⟩;have B1:=Qd (B0.out.kept hb);have H1:=Qd (Ua H0.out hb H0.out.size);clear hb;clear c0 c1 c2;obtain⟨c0,c1,c2⟩:=CN.out _ B1.out;go_wp2_with fail;refine(KN.out _).mono ?_;rintro e w2 ⟨rfl,hb⟩;have B2:=Qd (B1.out.kept hb);have H2:=Qd (Ua H1.out hb H1.out.size);clear hb;clear c0 c1 c2;obtain⟨c0,c1,c2⟩:=CN.out _ B2.out;go_wp2_with fail;refine(KO.out _).mono ?_;rintro e w3 ⟨rfl,hb⟩;have B3:=Qd (B2.out.kept hb);have H3:=Qd (Ua H2.out hb H2.out.size);clear hb;clear c0 c1 c2;obtain⟨p0,p1,p2,p3,p4,p5,p6,p7⟩:=CP.out _ B3.out;go_wp2_with fail;refine(KP.out _).mono ?_;rintro e w4 ⟨rfl,hb⟩;have B4:=Qd (B3.out.kept hb);have H4:=Qd (Ua H3.out hb H3.out.size);clear hb
    ·go_wp2_with fail;go_ret;exact⟨by simp,H4.out⟩
    ·clear p0 p1 p2 p3 p4 p5 p6 p7;go_wp2_with fail;refine(KX.out _ B4.out).mono ?_;rintro e w5 ⟨rfl,hb⟩;have B5:=Qd (B4.out.kept hb);have H5:=Qd (Ua H4.out hb H4.out.size);clear hb;go_wp2_with fail;go_ret;exact⟨by simp,H5.out⟩
def Uae:Sta:=⟨0,0,0,⟨⟨0,0,0,0⟩,⟨0,0,0⟩,false⟩,⟨0,0,0,0,0,false⟩,⟨0,0,0,0,0,false⟩,⟨0,0,0,0,0,false⟩⟩
def Ub8:Sta:=⟨0,0,0,Uew,Ueb 0 0,Ueb 0 0,Ueb 0 0⟩
def Zs (x:Sta):Sta:=if Ual x then x else { Ub8 with pose:={ Uew with bad:=true } }
section
variable {w:World} {g:Nat} {t:TypeId} {x:Sta}
theorem Box.farCells {cs:Array Value}(h:Box w g t cs){k:Nat}(hk:g≠k)(o:Nat)(vs:List Value):Box (w.setCells k o vs) g t cs:=h.grown (Yf k vs o w) hk
theorem U5j (h:Box w g t x.cells)(y:Axs):Box (w.setCells g 11 y.list) g t ({ x with x0:=y }:Sta).cells:=by
 have:=Box.midSet (vs:=y.list) (A:=[.int .i64 x.t,.int .i64 x.n,.int .i64 x.out]++x.pose.list) (B:=x.x0.list) (C:=x.x1.list++x.x2.list) (o:=11) (w:=w) (g:=g) (t:=t) (by simpa [Sta.cells,Sta.list] using h) rfl rfl;simpa [Sta.cells,Sta.list] using this
theorem U5k (h:Box w g t x.cells)(y:Axs):Box (w.setCells g 17 y.list) g t ({ x with x1:=y }:Sta).cells:=by
 have:=Box.midSet (vs:=y.list) (A:=[.int .i64 x.t,.int .i64 x.n,.int .i64 x.out]++x.pose.list++x.x0.list) (B:=x.x1.list) (C:=x.x2.list) (o:=17) (w:=w) (g:=g) (t:=t) (by simpa [Sta.cells,Sta.list] using h) rfl rfl;simpa [Sta.cells,Sta.list] using this
theorem U5l (h:Box w g t x.cells)(y:Axs):Box (w.setCells g 23 y.list) g t ({ x with x2:=y }:Sta).cells:=by
 have:=Box.midSet (vs:=y.list) (A:=[.int .i64 x.t,.int .i64 x.n,.int .i64 x.out]++x.pose.list++x.x0.list++x.x1.list) (B:=x.x2.list) (C:=[]) (o:=23) (w:=w) (g:=g) (t:=t) (by simpa [Sta.cells,Sta.list] using h) rfl rfl;simpa [Sta.cells,Sta.list] using this
theorem Uzf (h:Box w g t x.cells)(n:Int):Box (w.setCell ⟨g,2,none⟩ (.int .i64 n)) g t ({ x with out:=n }:Sta).cells:=h.set_ 2 _
theorem Uzg (h:Box w g t x.cells)(b:Bool):Box (w.setCell ⟨g,10,none⟩ (.bool b)) g t ({ x with pose:={ x.pose with bad:=b } }:Sta).cells:=h.set_ 10 _
theorem Uot {n o:Nat}(h:Box w g t x.cells)(hn:o+n≤29):w.there g o n:=h.midThere hn
end
theorem Usu:(prog.info? 49).map (·.size)=some (([]:List Value).length+6):=by kernel_rfl
theorem U2y (p:Pos)(w:World):(Instr.build 52 #[(3,pv p)]).run prog w = .ok (.agg ({ Uae with pose:=p }:Sta).cells) w:=by
 obtain⟨⟨q0,q1,q2,q3⟩,⟨u0,u1,u2⟩,bd⟩:=p
 kernel_rfl
theorem Ugi (w:World):Calls prog 26 #[] w (Ub (stv Ub8) w):=by
 have KP:=Qd (fun w=>Ulc w);have KA:=Qd (fun w=>Ule 0 0 w);have F:Hid (Ub8=⟨0,0,0,Uew,Ueb 0 0,Ueb 0 0,Ueb 0 0⟩):=Qd rfl;rw[F.out];clear F;generalize Uew=p at *;generalize Ueb 0 0=y at *;have HY:Hid (axv y = .agg y.list.toArray):=Qd rfl;have O1:Hid (y.list.toArray.all (·.oneCell')=true):=Qd (by simp[Axs.list,Value.oneCell']);have OS:Hid (∀x:Sta,x.cells.all (·.oneCell')=true):=Qd Sta.one;have KB:=Qd (fun w=>U2y p w);generalize pv p=pp at *;rw[HY.out] at KA;go_enter func26,ntmps26;go_upto_region 1 with fail
 refine Uq fun W0 hW0=>?_
 have B0:Hid (Box W0 w.heap.size 52 Uae.cells):=Qd (by rw[hW0];exact Box.new w _ _);have H0:Hid (Below w.heap.size w W0):=Qd (by rw[hW0];exact(Xb _ w).alloc (Xa _) _);clear hW0;go_wp2_with fail;refine(KP.out _).mono ?_;rintro e w1 ⟨rfl,hb⟩;have B1:=Qd (B0.out.kept hb);have H1:=Qd (Ua H0.out hb H0.out.size);clear hb B0 H0 KP;go_wp2_with (with_reducible first|refine Qh 52 ?_|refine Qg 52 ?_|refine Qj 49 ?_|refine Qk 52 ?_);refine Ubm.go _ (by simp only[List.map_toArray,List.map_cons,List.map_nil];exact KB.out _) ?_;have BS:Hid (Box (w1.alloc (.cells Uae.cells 52)) w1.heap.size 52 Uae.cells):=Qd (Box.new _ _ _);go_wp2_with (with_reducible first|refine Qh 52 ?_|refine Qg 52 ?_|refine Qj 49 ?_|refine Qk 52 ?_);refine Uf.go (old:=Uae.cells) w1.heap.size rfl rfl BS.out Yj rfl (OS.out _) ?_;go_upto_region 2 with fail
 refine Uq fun W2 hW2=>?_
 have B2:Hid (Box W2 w.heap.size 52 Uae.cells):=Qd (by rw[hW2];exact(B1.out.alloc _).row_far (by have:=B1.out.lt;omega) _);have X2:Hid (Box W2 w1.heap.size 52 ({ Uae with pose:=p }:Sta).cells):=Qd (by rw[hW2];exact BS.out.row _);have H2:Hid (Below w.heap.size w W2):=Qd (by rw[hW2];exact Uc (H1.out.alloc H1.out.size _) H1.out.size _);have hne:w.heap.size<w1.heap.size:=B1.out.lt;clear hW2 B1 H1 BS;generalize w1.heap.size=g at *;go_wp2_with fail;refine wp_loop_rounds 4 ?_;rw[Xq];go_wp2_with fail;refine(KA.out _).mono ?_;rintro e v0 ⟨rfl,hb⟩;have B3:=Qd (B2.out.kept hb);have X3:=Qd (X2.out.kept hb);have H3:=Qd (Ua H2.out hb H2.out.size);clear hb B2 X2 H2;go_wp2_with (with_reducible first|refine Qh 52 ?_|refine Qg 52 ?_|refine Qj 49 ?_|refine Qk 52 ?_);refine Uai.go g 11 rfl rfl (Uot (n:=6) X3.out (by omega)) Uy O1.out ?_;refine Udg fun W3 hW=>?_
 have B4:Hid (Box W3 w.heap.size 52 Uae.cells):=Qd (by rw[hW];exact B3.out.farCells (by omega) _ _);have X4:=Qd (U5j X3.out y);rw[←hW] at X4;have H4:Hid (Below w.heap.size w W3):=Qd (by rw[hW];exact Below.setCells H3.out H3.out.size (by omega) _ _);clear hW B3 X3 H3;go_wp2_with fail;rw[Xq];go_wp2_with fail;refine(KA.out _).mono ?_;rintro e v1 ⟨rfl,hb⟩;have B5:=Qd (B4.out.kept hb);have X5:=Qd (X4.out.kept hb);have H5:=Qd (Ua H4.out hb H4.out.size);clear hb B4 X4 H4;go_wp2_with (with_reducible first|refine Qh 52 ?_|refine Qg 52 ?_|refine Qj 49 ?_|refine Qk 52 ?_);refine Uai.go g 17 rfl rfl (Uot (n:=6) X5.out (by omega)) Uy O1.out ?_;refine Udg fun W5 hW=>?_
 have B6:Hid (Box W5 w.heap.size 52 Uae.cells):=Qd (by rw[hW];exact B5.out.farCells (by omega) _ _);have X6:=Qd (U5k X5.out y);rw[←hW] at X6;have H6:Hid (Below w.heap.size w W5):=Qd (by rw[hW];exact Below.setCells H5.out H5.out.size (by omega) _ _);clear hW B5 X5 H5;go_wp2_with fail;rw[Xq];go_wp2_with fail;refine(KA.out _).mono ?_;rintro e v2 ⟨rfl,hb⟩;have B7:=Qd (B6.out.kept hb);have X7:=Qd (X6.out.kept hb);have H7:=Qd (Ua H6.out hb H6.out.size);clear hb B6 X6 H6;go_wp2_with (with_reducible first|refine Qh 52 ?_|refine Qg 52 ?_|refine Qj 49 ?_|refine Qk 52 ?_);refine Uai.go g 23 rfl rfl (Uot (n:=6) X7.out (by omega)) Uy O1.out ?_;refine Udg fun W7 hW=>?_
 have B8:Hid (Box W7 w.heap.size 52 Uae.cells):=Qd (by rw[hW];exact B7.out.farCells (by omega) _ _);have X8:=Qd (U5l X7.out y);rw[←hW] at X8;have H8:Hid (Below w.heap.size w W7):=Qd (by rw[hW];exact Below.setCells H7.out H7.out.size (by omega) _ _);clear hW B7 X7 H7;go_wp2_with fail;rw[Xq];go_wp2_with (with_reducible first|refine Qh 52 ?_|refine Qg 52 ?_|refine Qj 49 ?_|refine Qk 52 ?_);refine Uo.go g rfl X8.out underlying52 rfl Yj ?_;go_wp2_with (with_reducible first|refine Qh 52 ?_|refine Qg 52 ?_|refine Qj 49 ?_|refine Qk 52 ?_);refine Uf.go w.heap.size rfl rfl B8.out Yj rfl (OS.out _) ?_;go_wp2_with fail;exact Xk (results_cell_row results26 _ _ w.heap.size 52 _ (0,0) _ rfl (B8.out.row _) underlying52 rfl Yj) rfl ⟨rfl,Uc H8.out (Xa _) _⟩
theorem Ugj (x:Sta)(w:World):Calls prog 81 #[stv x] w (Ub (stv (Zs x)) w):=by
 have KS:=Qd (fun w=>Ucr x w);have KO:=Qd (fun w=>Ugi w);have D0:=Qd (Duo.new w 52 x.cells 52 Uae.cells);have F:Hid (Zs x=if Ual x then x else { Ub8 with pose:={ Uew with bad:=true } }):=Qd rfl;have OS:Hid (∀x:Sta,x.cells.all (·.oneCell')=true):=Qd Sta.one;have SZ:Hid (∀x:Sta,(prog.info? 52).map (·.size)=some x.cells.size):=Qd (fun x=>Yj);rw[F.out];by_cases h:Ual x;rotate_right
 focus
  rw[if_neg h];rw[Xh h] at KS;clear F h;have HS:Hid (stv ({ Ub8 with pose:={ Uew with bad:=true } }:Sta)=stv ({ Ub8 with pose:={ Ub8.pose with bad:=true } }:Sta)):=Qd rfl;rw[HS.out];clear HS;generalize Ub8=st at *;dsimp only[stv] at KS KO ⊢
 rotate_right
 focus
  rw[if_pos h];rw[Xi h] at KS;clear F h KO;dsimp only[stv] at KS ⊢;have OX:=Qd (OS.out x)
 all_goals
  have SX:=Qd (SZ.out x);generalize x.cells=cs at *;go_enter func81,ntmps81;go_upto_region 1 with fail
  refine Uq fun W0 hW0=>?_
  have D1:Hid (Duo w 52 cs 52 Uae.cells W0):=Qd (by rw[hW0];exact D0.out);clear hW0 D0;go_wp2_with (with_reducible first|refine Qh 52 ?_|refine Qg 52 ?_|refine Qj 49 ?_|refine Qk 52 ?_);refine Uo.go w.heap.size rfl D1.out.1 underlying52 rfl SX.out ?_;go_wp2_with fail;refine(KS.out _).mono ?_;rintro e w3 ⟨rfl,hb⟩;have D2:=Qd (D1.out.kept hb);clear hb D1
 rotate_right
 focus
  go_wp2_with fail;refine(KO.out _).mono ?_;rintro e w4 ⟨rfl,hb⟩;have D3:=Qd (D2.out.kept hb);clear hb D2
 rotate_right
 all_goals
  go_wp2_with (with_reducible first|refine Qh 52 ?_|refine Qg 52 ?_|refine Qj 49 ?_|refine Qk 52 ?_)
 rotate_right
 focus
  refine Uf.go w.heap.size rfl rfl D3.out.1 Yj (by have:=SX.out;rw[Yj] at this;exact(Option.some.inj this).symm) (OS.out _) ?_;refine Udg fun W5 hW=>?_
  have B5:Hid (Box W5 w.heap.size 52 st.cells):=Qd (by rw[hW];exact D3.out.1.row _);have R5:Hid (Box W5 (w.heap.size+1) 52 Uae.cells):=Qd (by rw[hW];exact D3.out.2.1.row_far (by omega) _);have H5:Hid (Below w.heap.size w W5):=Qd (by rw[hW];exact Uc D3.out.2.2 (Xa _) _);clear hW D3;have c10:=B5.out.cell 10;have f10:=B5.out.frozen 10;have e10:Hid (st.cells[10]? = some (.bool st.pose.bad)):=Qd rfl;rw[e10.out] at c10;go_upto_region 5 with fail
  refine Uq fun W6 hW=>?_
  have B6:Hid (Box W6 w.heap.size 52 ({ st with pose:={ st.pose with bad:=true } }:Sta).cells):=Qd (by rw[hW];exact Uzg B5.out true);have R6:Hid (Box W6 (w.heap.size+1) 52 Uae.cells):=Qd (by rw[hW];exact R5.out.far (by simp) _);have H6:Hid (Below w.heap.size w W6):=Qd (by rw[hW];exact H5.out.setCell (Xa _) _);clear hW B5 R5 H5 c10 f10 e10;generalize ({ st with pose:={ st.pose with bad:=true } }:Sta)=z at *
 rotate_right
 focus
  refine Uo.go w.heap.size rfl D2.out.1 underlying52 rfl SX.out ?_
 all_goals
  go_wp2_with (with_reducible first|refine Qh 52 ?_|refine Qg 52 ?_|refine Qj 49 ?_|refine Qk 52 ?_)
 ·refine Uf.go (w.heap.size+1) rfl rfl D2.out.2.1 SX.out (by have:=SX.out;rw[Yj] at this;exact Option.some.inj this) OX.out ?_;go_wp2_with fail;exact Xk (results_cell_row results81 _ _ (w.heap.size+1) 52 _ (0,0) _ rfl (D2.out.2.1.row _) underlying52 rfl SX.out) rfl ⟨rfl,Uc D2.out.2.2 (by omega) _⟩
 ·refine Uo.go w.heap.size rfl B6.out underlying52 rfl Yj ?_;go_wp2_with (with_reducible first|refine Qh 52 ?_|refine Qg 52 ?_|refine Qj 49 ?_|refine Qk 52 ?_);refine Uf.go (w.heap.size+1) rfl rfl R6.out Yj rfl (OS.out _) ?_;go_wp2_with fail;exact Xk (results_cell_row results81 _ _ (w.heap.size+1) 52 _ (0,0) _ rfl (R6.out.row _) underlying52 rfl Yj) rfl ⟨rfl,Uc H6.out (by omega) _⟩
end Go.Proofs.YtdaflmjfeoacaaaGreat
