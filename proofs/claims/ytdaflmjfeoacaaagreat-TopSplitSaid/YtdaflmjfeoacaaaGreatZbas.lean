/- Part of the proof of TopTry, TopSplit: AxB, SeA, SaA, SaB, SaC. Conditions: none. -/
import Derived.Test.YtdaflmjfeoacaaaGreatZbar
import Derived.BigRegion
import Derived.Test.YtdaflmjfeoacaaaGreatZbao
import Derived.Test.YtdaflmjfeoacaaaGreatZbaq
set_option linter.all false
set_option maxHeartbeats 16000000
set_option maxRecDepth 4000
namespace Go.Proofs.YtdaflmjfeoacaaaGreat
open Tryz
open Go.RowKit
theorem Uy9 {w:World}{g:Nat}{t:TypeId}{a0 a1 a2 a3 a4 a5:Value}(h:Box w g t #[a0,a1,a2,a3,a4,a5]) :
  (w.cell? ⟨g,0,none⟩=some a0∧w.cell? ⟨g,1,none⟩=some a1∧w.cell? ⟨g,2,none⟩=some a2∧w.cell? ⟨g,3,none⟩=some a3∧w.cell? ⟨g,4,none⟩=some a4∧w.cell? ⟨g,5,none⟩=some a5)∧(w.frozen? ⟨g,0,none⟩=false∧w.frozen? ⟨g,1,none⟩=false∧w.frozen? ⟨g,2,none⟩=false∧w.frozen? ⟨g,3,none⟩=false∧w.frozen? ⟨g,4,none⟩=false∧w.frozen? ⟨g,5,none⟩=false) :=
 ⟨⟨h.cell 0,h.cell 1,h.cell 2,h.cell 3,h.cell 4,h.cell 5⟩,h.frozen 0,h.frozen 1,h.frozen 2,h.frozen 3,h.frozen 4,h.frozen 5⟩
theorem Usr {w:World}{g:Nat}{t:TypeId}{a0 a1 a2 a3 a4 a5 a6:Value}(h:Box w g t #[a0,a1,a2,a3,a4,a5,a6]) :
  (w.cell? ⟨g,0,none⟩=some a0∧w.cell? ⟨g,1,none⟩=some a1∧w.cell? ⟨g,2,none⟩=some a2∧w.cell? ⟨g,3,none⟩=some a3∧w.cell? ⟨g,4,none⟩=some a4∧w.cell? ⟨g,5,none⟩=some a5∧w.cell? ⟨g,6,none⟩=some a6)∧(w.frozen? ⟨g,0,none⟩=false∧w.frozen? ⟨g,1,none⟩=false∧w.frozen? ⟨g,2,none⟩=false∧w.frozen? ⟨g,3,none⟩=false∧w.frozen? ⟨g,4,none⟩=false∧w.frozen? ⟨g,5,none⟩=false∧w.frozen? ⟨g,6,none⟩=false) :=
 ⟨⟨h.cell 0,h.cell 1,h.cell 2,h.cell 3,h.cell 4,h.cell 5,h.cell 6⟩,h.frozen 0,h.frozen 1,h.frozen 2,h.frozen 3,h.frozen 4,h.frozen 5,h.frozen 6⟩
def U5 (f:Bool)(x:Axs):Array Value:=#[.bool f,.int .i64 x.p,.int .i64 x.v,.int .i64 x.pp,.int .i64 x.pv,.int .i64 x.vv,.bool x.bad]
def Uqf (r:Value)(b:Nat)(f:Bool)(x:Axs)(w:World)(e:Ending)(w':World):Prop:=e = .returned r∧Box w' b 223 (U5 f x)∧w.grownBy w' (some b)
theorem Ufq {b:Nat}{f:Bool}{x:Axs}{w:World}(n:Int)(c:Bool)(H:Box w b 223 (U5 f x)):Calls prog 161 #[.pointer (some ⟨b,0,none⟩),.int .i64 n,.bool c] w (Uqf (.int .i64 n) b (f||c) x w):=by
 have c0:w.cell? ⟨b,0,none⟩=some (.bool f):=H.cell 0;have c1:=H.frozen 0;have HH:=Qd H;clear H;cases f
 all_goals
  go_enter func161,ntmps161;go_wp2_with fail;go_ret;exact⟨rfl,HH.out.set_ 0 _,Uh _ _ _ _⟩
theorem Ulf {b:Nat}{f:Bool}{x:Axs}{w:World}(a c:Int)(H:Box w b 223 (U5 f x)):Calls prog 134 #[.pointer (some ⟨b,0,none⟩),.int .i64 a,.int .i64 c] w (Uqf (.int .i64 (Ubh a c).1) b (f||(Ubh a c).2) x w):=by
 have K:=Qd (fun w=>U2p a c w);have KT:=Qd (fun(n:Int) (c:Bool) (w:World) (H:Box w b 223 (U5 f x))=>Ufq n c H);generalize Ubh a c=r at *;obtain⟨n,d⟩:=r;dsimp only at K ⊢;have HH:=Qd H;clear H;go_enter func134,ntmps134;go_wp2_with fail;refine(K.out _).mono ?_;rintro e w1 ⟨rfl,rfl⟩;have H1:=HH;go_wp2_with fail;refine(KT.out _ _ _ H1.out).mono ?_;rintro e w2 ⟨rfl,h2,hg⟩;have H2:=Qd h2;have G2:=Qd (hg);clear h2 hg;go_wp2_with fail;go_ret;exact⟨rfl,H2.out,G2.out⟩
theorem Ulg {b:Nat}{f:Bool}{x:Axs}{w:World}(a c:Int)(H:Box w b 223 (U5 f x)):Calls prog 208 #[.pointer (some ⟨b,0,none⟩),.int .i64 a,.int .i64 c] w (Uqf (.int .i64 (Ueh a c).1) b (f||(Ueh a c).2) x w):=by
 have K:=Qd (fun w=>Ut8 a c w);have KT:=Qd (fun(n:Int) (c:Bool) (w:World) (H:Box w b 223 (U5 f x))=>Ufq n c H);generalize Ueh a c=r at *;obtain⟨n,d⟩:=r;dsimp only at K ⊢;have HH:=Qd H;clear H;go_enter func208,ntmps208;go_wp2_with fail;refine(K.out _).mono ?_;rintro e w1 ⟨rfl,rfl⟩;have H1:=HH;go_wp2_with fail;refine(KT.out _ _ _ H1.out).mono ?_;rintro e w2 ⟨rfl,h2,hg⟩;have H2:=Qd h2;have G2:=Qd (hg);clear h2 hg;go_wp2_with fail;go_ret;exact⟨rfl,H2.out,G2.out⟩
theorem Ugf {b:Nat}{f:Bool}{x:Axs}{w:World}(a c:Int)(H:Box w b 223 (U5 f x)):Calls prog 133 #[.pointer (some ⟨b,0,none⟩),.int .i64 a,.int .i64 c] w (Uqf (.int .i64 (Up a c).1) b (f||(Up a c).2) x w):=by
 have K:=Qd (fun w=>Udq a c w);have KT:=Qd (fun(n:Int) (c:Bool) (w:World) (H:Box w b 223 (U5 f x))=>Ufq n c H);generalize Up a c=r at *;obtain⟨n,d⟩:=r;dsimp only at K ⊢;have HH:=Qd H;clear H;go_enter func133,ntmps133;go_wp2_with fail;refine(K.out _).mono ?_;rintro e w1 ⟨rfl,hb⟩;have H1:=Qd (HH.out.kept hb);have G1:=Qd (Yg (b:=b) hb);clear hb;go_wp2_with fail;refine(KT.out _ _ _ H1.out).mono ?_;rintro e w2 ⟨rfl,h2,hg⟩;have H2:=Qd h2;have G2:=Qd (Un G1.out hg);clear h2 hg;go_wp2_with fail;go_ret;exact⟨rfl,H2.out,G2.out⟩
theorem Uim {b:Nat}{f:Bool}{x:Axs}{w:World}(a c:Int)(H:Box w b 223 (U5 f x)):Calls prog 210 #[.pointer (some ⟨b,0,none⟩),.int .i64 a,.int .i64 c] w (Uqf (.int .i64 (Y5 a c).1) b (f||(Y5 a c).2) x w):=by
 have K:=Qd (fun w=>Uk5 a c w);have KT:=Qd (fun(n:Int) (c:Bool) (w:World) (H:Box w b 223 (U5 f x))=>Ufq n c H);generalize Y5 a c=r at *;obtain⟨n,d⟩:=r;dsimp only at K ⊢;have HH:=Qd H;clear H;go_enter func210,ntmps210;go_wp2_with fail;refine(K.out _).mono ?_;rintro e w1 ⟨rfl,hb⟩;have H1:=Qd (HH.out.kept hb);have G1:=Qd (Yg (b:=b) hb);clear hb;go_wp2_with fail;refine(KT.out _ _ _ H1.out).mono ?_;rintro e w2 ⟨rfl,h2,hg⟩;have H2:=Qd h2;have G2:=Qd (Un G1.out hg);clear h2 hg;go_wp2_with fail;go_ret;exact⟨rfl,H2.out,G2.out⟩
theorem Ucz (x:Axs)(w:World):Calls prog 131 #[axv x] w (fun e w'=>∃b,e = .returned (.pointer (some ⟨b,0,none⟩))∧w.heap.size≤b∧Box w' b 223 (U5 false (Uj x))∧Below w.heap.size w w'):=by
 have KS:=Qd (fun w=>Um8 x w);have KO:=Qd (fun w=>Ule 0 0 w);have F:Hid (Uj x=if Zg x then x else { Ueb 0 0 with bad:=true }):=Qd rfl;rw[F.out];have HE:Hid (Ueb 0 0=⟨0,0,17592186044416,0,17592186044416,false⟩):=Qd (by decide);rw[HE.out] at KO ⊢;have D0:=Qd (Duo.new w 49 x.cells 223 (U5 false x));by_cases h:Zg x;rotate_right
 focus
  rw[if_neg h];rw[Xh h] at KS;clear F h HE;obtain⟨p,v,pp,pv,vv,bd⟩:=x;dsimp only[axv,Axs.cells,U5] at KS D0 KO ⊢
 rotate_right
 focus
  rw[if_pos h];rw[Xi h] at KS;clear F h KO HE;obtain⟨p,v,pp,pv,vv,bd⟩:=x;dsimp only[axv,Axs.cells,U5] at KS D0 ⊢
 all_goals
  go_enter func131,ntmps131;go_wp2_with fail;refine(KS.out _).mono ?_;rintro e w3 ⟨rfl,hb⟩;have D1:=Qd (D0.out.kept hb);clear hb D0;go_wp2_with fail
 ·go_ret;exact⟨w.heap.size+1,rfl,by omega,D1.out.2.1,D1.out.2.2⟩
 ·refine(KO.out _).mono ?_;rintro e w4 ⟨rfl,hb⟩;have D2:=Qd (D1.out.kept hb);clear hb D1;obtain⟨⟨_,c1,c2,c3,c4,c5,c6⟩,_,f1,f2,f3,f4,f5,f6⟩:=Usr D2.out.2.1;go_wp2_with fail;go_ret;refine⟨w.heap.size+1,rfl,by omega,?_,?_⟩
  ·exact(((((((D2.out.2.1.set_ 1 (.int .i64 0)).set_ 2 (.int .i64 0)).set_ 3 (.int .i64 17592186044416)).set_ 4 (.int .i64 0)).set_ 5 (.int .i64 17592186044416)).set_ 6 (.bool false)).set_ 6 (.bool true))
  ·exact((((((D2.out.2.2.setCell (p:=⟨w.heap.size+1,1,none⟩) (show _≤w.heap.size+1 by omega) _).setCell (p:=⟨w.heap.size+1,2,none⟩) (show _≤w.heap.size+1 by omega) _).setCell (p:=⟨w.heap.size+1,3,none⟩) (show _≤w.heap.size+1 by omega) _).setCell (p:=⟨w.heap.size+1,4,none⟩) (show _≤w.heap.size+1 by omega) _).setCell (p:=⟨w.heap.size+1,5,none⟩) (show _≤w.heap.size+1 by omega) _).setCell (p:=⟨w.heap.size+1,6,none⟩) (show _≤w.heap.size+1 by omega) _).setCell (p:=⟨w.heap.size+1,6,none⟩) (show _≤w.heap.size+1 by omega) _
theorem Ulh {b:Nat}{f:Bool}{x:Axs}{w:World}(H:Box w b 223 (U5 f x)):Calls prog 132 #[.pointer (some ⟨b,0,none⟩)] w (Ub (axv { x with bad:=true }) w):=by
 obtain⟨p,v,pp,pv,vv,bd⟩:=x;have hl:=H.lt;have H1:=Qd (H.alloc (.cells #[.int .i64 0,.int .i64 0,.int .i64 0,.int .i64 0,.int .i64 0,.bool false] 49));have B0:=Qd (Box.new w 49 #[.int .i64 0,.int .i64 0,.int .i64 0,.int .i64 0,.int .i64 0,.bool false]);dsimp only[axv,Axs.cells,U5] at H1 ⊢;clear H;obtain⟨⟨_,c1,c2,c3,c4,c5,c6⟩,_⟩:=Usr H1.out;go_enter func132,ntmps132;go_wp2_with fail;exact Xk (results_cell_row results132 _ _ w.heap.size 49 _ (0,0) _ rfl ((Box.new w _ _).alloc _) underlying49 rfl Uy) rfl ⟨rfl,((Xb _ w).alloc (Xa _) _).alloc (by simp) _⟩
theorem Ub0 (n:Int):max 4096 (min n 4503599627370496)=Yh n:=by unfold Yh;split<;>(try split)<;>omega
def Ul8.cells (c:Ul8):Array Value:=#[.int .i64 c.bias.x,.int .i64 c.bias.y,.int .i64 c.bias.z,.int .i64 c.gain,.int .i64 c.max]
def U8k (c:Ul8):Value := .agg c.cells
theorem Udl {w:World}{g:Nat}{t:TypeId}{a0 a1 a2 a3 a4:Value}(h:Box w g t #[a0,a1,a2,a3,a4]):(w.cell? ⟨g,0,none⟩=some a0∧w.cell? ⟨g,1,none⟩=some a1∧w.cell? ⟨g,2,none⟩=some a2∧w.cell? ⟨g,3,none⟩=some a3∧w.cell? ⟨g,4,none⟩=some a4) ∧
  (w.frozen? ⟨g,0,none⟩=false∧w.frozen? ⟨g,1,none⟩=false∧w.frozen? ⟨g,2,none⟩=false∧w.frozen? ⟨g,3,none⟩=false∧w.frozen? ⟨g,4,none⟩=false) :=
 ⟨⟨h.cell 0,h.cell 1,h.cell 2,h.cell 3,h.cell 4⟩,h.frozen 0,h.frozen 1,h.frozen 2,h.frozen 3,h.frozen 4⟩
theorem Uqg (v:V3)(w:World):Calls prog 175 #[v3 v] w (Ub (.bool (!Ua3 v.list)) w):=by
 have K:Hid (∀W,Box W w.heap.size 24 v.cells→Calls prog 71 #[.slice (some ⟨w.heap.size,0,none⟩) 3 3,.func (.func 194) #[] #[]] W (Ub (.bool (Ua3 v.list)) W)) :=
  Qd (fun W H=>Uy6 v.list chg W rfl (by omega) H.lt (Usi H) Uor)
 generalize Ua3 v.list=b at *;obtain⟨a1,a2,a3⟩:=v;dsimp only[v3,V3.cells] at K ⊢;go_enter func175,ntmps175;go_wp2_with fail;refine(K.out _ (Box.new w _ _)).mono ?_;rintro e w1 ⟨rfl,hb⟩;have HB:=Qd (Zw hb);clear hb;go_wp2_with fail;go_ret;exact⟨rfl,HB.out⟩
theorem U2t {c:Ul8}(hm:0≤c.max∧c.max≤288230376151711744)(n:Int)(w:World):Calls prog 155 #[.agg c.cells,.int .i64 n] w (Ub (.bool (U49 c n)) w):=by
 obtain⟨⟨b0,b1,b2⟩,gn,mx⟩:=c;dsimp only at hm;have e1:wrap64 (-mx) = -mx:=IntWalk.wrap64_in _ (by omega);have e2:IntKind.i64.wrap (-mx) = -mx:=Uol (by omega) (by omega);have F:Hid (U49 ⟨⟨b0,b1,b2⟩,gn,mx⟩ n=(decide (mx<n)||decide (n < -mx))):=Qd rfl;rw[F.out];clear F hm;dsimp only[Ul8.cells];by_cases h:mx<n
 ·have h1:decide (mx<n)=true:=Xi h;go_enter func155,ntmps155;go_wp2_with fail;go_ret;exact⟨by simp[h],(Xb _ w).alloc (Xa _) _⟩
 ·have h1:decide (mx<n)=false:=Xh h;go_enter func155,ntmps155;go_wp2_with fail;go_ret;exact⟨by simp<;>omega,(Xb _ w).alloc (Xa _) _⟩
theorem Uv5 (c:Ul8)(w:World):Calls prog 154 #[U8k c] w (Ub (.bool (decide (Uij c))) w):=by
 have K0:=Qd (fun w=>Uqg c.bias w);have K1:=Qd (fun w=>Uge c.gain w);have K3:=Qd (fun w=>Uge c.max w)
 have F:Hid (decide (Uij c)=(!Ua3 c.bias.list&&(!chg c.gain&&(decide (0<c.gain)&&(!chg c.max&&decide (0≤c.max)))))):=Qd (by
  have e:Uij c↔(Ua3 c.bias.list=false∧chg c.gain=false∧0<c.gain∧chg c.max=false∧0≤c.max):=Iff.rfl;have e2:decide (Uij c)=decide (Ua3 c.bias.list=false∧chg c.gain=false∧0<c.gain∧chg c.max=false∧0≤c.max):=decide_eq_decide.2 e;rw[e2]
  cases Ua3 c.bias.list<;>cases chg c.gain<;>cases chg c.max<;>simp)
 rw[F.out];clear F;generalize (!Ua3 c.bias.list)=t0 at *;generalize (!chg c.gain)=t1 at *;generalize (!chg c.max)=t3 at *;obtain⟨⟨b0,b1,b2⟩,gn,mx⟩:=c;dsimp only[U8k,Ul8.cells,v3] at K0 K1 K3 ⊢;obtain⟨t2,ht2⟩:∃t,decide (0<gn)=t:=⟨_,rfl⟩;obtain⟨t4,ht4⟩:∃t,decide (0≤mx)=t:=⟨_,rfl⟩;rw[ht2,ht4];have B0:Hid (Box (w.alloc (.cells #[.int .i64 b0,.int .i64 b1,.int .i64 b2,.int .i64 gn,.int .i64 mx] 26)) w.heap.size 26 #[.int .i64 b0,.int .i64 b1,.int .i64 b2,.int .i64 gn,.int .i64 mx]):=Qd (Box.new w _ _);have H0:Hid (Below w.heap.size w (w.alloc (.cells #[.int .i64 b0,.int .i64 b1,.int .i64 b2,.int .i64 gn,.int .i64 mx] 26))):=Qd ((Xb _ w).alloc (Xa _) _);go_enter func154,ntmps154;go_wp2_with fail;refine(K0.out _).mono ?_;rintro e w1 ⟨rfl,hb⟩;have B1:=Qd (B0.out.kept hb);have H1:=Qd (Ua H0.out hb H0.out.size);clear hb B0 H0;cases t0
 ·go_wp2_with fail;go_ret;exact⟨by simp,H1.out⟩
 ·obtain⟨⟨_,_,_,c3,c4⟩,_⟩:=Udl B1.out;go_wp2_with fail;refine(K1.out _).mono ?_;rintro e w2 ⟨rfl,hb⟩;have B2:=Qd (B1.out.kept hb);have H2:=Qd (Ua H1.out hb H1.out.size);clear hb B1 H1 c3 c4;cases t1
  ·go_wp2_with fail;go_ret;exact⟨by simp,H2.out⟩
  ·obtain⟨⟨_,_,_,c3,c4⟩,_⟩:=Udl B2.out;cases t2
   ·go_wp2_with fail;go_ret;exact⟨by simp,H2.out⟩
   ·go_wp2_with fail;refine(K3.out _).mono ?_;rintro e w3 ⟨rfl,hb⟩;have B3:=Qd (B2.out.kept hb);have H3:=Qd (Ua H2.out hb H2.out.size);clear hb B2 H2 c3 c4;obtain⟨⟨_,_,_,c3,c4⟩,_⟩:=Udl B3.out;cases t3
    all_goals
     go_wp2_with fail;go_ret;exact⟨by simp,H3.out⟩
structure Smp where
 t:Int
 s:Int
 v:V3
deriving DecidableEq
def Smp.list (x:Smp):List Int:=[x.t,x.s,x.v.x,x.v.y,x.v.z]
def Smp.cells (x:Smp):Array Value:=#[.int .i64 x.t,.int .i64 x.s,.int .i64 x.v.x,.int .i64 x.v.y,.int .i64 x.v.z]
def Udr (x:Smp):Value := .agg x.cells
def inL (n:Int):Prop := -288230376151711744≤n∧n≤288230376151711744
instance (n:Int):Decidable (inL n):=by unfold inL;exact inferInstance
def Ubg (x:Smp):Prop:=(inL x.v.x∧inL x.v.y∧inL x.v.z)∧(0≤x.t∧x.t≤1099511627776)∧0≤x.s∧x.s<4
instance (x:Smp):Decidable (Ubg x):=by unfold Ubg;exact inferInstance
def Uaa (a b:Smp):Bool:=decide (orI (Lib.compareInt a.t b.t) (Lib.compareInt a.s b.s)<0)
theorem Ye:(prog.info? 40).map (·.size)=some 5:=by kernel_rfl
theorem U83 (a b c:Int):(∀w,(Instr.index 24 (.agg #[.int .i64 a,.int .i64 b,.int .i64 c]) (.int .i64 0)).run prog w = .ok (.int .i64 a) w)∧(∀w,(Instr.index 24 (.agg #[.int .i64 a,.int .i64 b,.int .i64 c]) (.int .i64 1)).run prog w = .ok (.int .i64 b) w) ∧
  (∀w,(Instr.index 24 (.agg #[.int .i64 a,.int .i64 b,.int .i64 c]) (.int .i64 2)).run prog w = .ok (.int .i64 c) w) :=
 ⟨fun _=>by kernel_rfl,fun _=>by kernel_rfl,fun _=>by kernel_rfl⟩
theorem Uds (x:Smp)(w:World):Calls prog 12 #[Udr x] w (Ub (.bool (decide (Ubg x))) w):=by
 obtain⟨t,s,⟨v0,v1,v2⟩⟩:=x;obtain⟨l0,hl0⟩:∃b,decide (v0 < -288230376151711744)=b:=⟨_,rfl⟩;obtain⟨l1,hl1⟩:∃b,decide (v1 < -288230376151711744)=b:=⟨_,rfl⟩;obtain⟨l2,hl2⟩:∃b,decide (v2 < -288230376151711744)=b:=⟨_,rfl⟩;obtain⟨g0,hg0⟩:∃b,decide (288230376151711744<v0)=b:=⟨_,rfl⟩;obtain⟨g1,hg1⟩:∃b,decide (288230376151711744<v1)=b:=⟨_,rfl⟩;obtain⟨g2,hg2⟩:∃b,decide (288230376151711744<v2)=b:=⟨_,rfl⟩;obtain⟨a0,ha0⟩:∃b,decide (0≤t)=b:=⟨_,rfl⟩;obtain⟨a1,ha1⟩:∃b,decide (t≤1099511627776)=b:=⟨_,rfl⟩;obtain⟨a2,ha2⟩:∃b,decide (0≤s)=b:=⟨_,rfl⟩;obtain⟨a3,ha3⟩:∃b,decide (s<4)=b:=⟨_,rfl⟩
 have F:Hid (decide (Ubg ⟨t,s,⟨v0,v1,v2⟩⟩)=(!l0&&(!g0&&(!l1&&(!g1&&(!l2&&(!g2&&(a0&&(a1&&(a2&&a3)))))))))):=Qd (by
  have e:Ubg ⟨t,s,⟨v0,v1,v2⟩⟩↔((-288230376151711744≤v0∧v0≤288230376151711744)∧(-288230376151711744≤v1∧v1≤288230376151711744)∧(-288230376151711744≤v2∧v2≤288230376151711744))∧(0≤t∧t≤1099511627776)∧0≤s∧s<4:=Iff.rfl;rw[←hl0,←hl1,←hl2,←hg0,←hg1,←hg2,←ha0,←ha1,←ha2,←ha3];rw[Bool.eq_iff_iff];simp only[decide_eq_true_eq,e,Bool.and_eq_true,Bool.not_eq_true',decide_eq_false_iff_not]
  omega)
 rw[F.out];clear F;dsimp only[Udr,Smp.cells];obtain⟨ix0,ix1,ix2⟩:=U83 v0 v1 v2;have H0:Hid (Below w.heap.size w (w.alloc (.cells #[.int .i64 t,.int .i64 s,.int .i64 v0,.int .i64 v1,.int .i64 v2] 40))):=Qd ((Xb _ w).alloc (Xa _) _);cases l0
 ·cases g0
  ·cases l1;rotate_right
   focus
    go_enter func12,ntmps12;go_wp2_with fail;refine wp_loop_rounds 4 ?_
   rotate_right
   focus
    cases g1;rotate_right
    focus
     go_enter func12,ntmps12;go_wp2_with fail;refine wp_loop_rounds 4 ?_
    rotate_right
    focus
     cases l2;rotate_right
     focus
      go_enter func12,ntmps12;go_wp2_with fail;refine wp_loop_rounds 4 ?_
     rotate_right
     focus
      cases g2;rotate_right
      focus
       go_enter func12,ntmps12;go_wp2_with fail;refine wp_loop_rounds 4 ?_
      rotate_right
      focus
       cases a0;rotate_right
       focus
        cases a1;rotate_right
        focus
         cases a2
        rotate_right
       rotate_right
       all_goals
        go_enter func12,ntmps12;go_wp2_with fail;refine wp_loop_rounds 4 ?_;rw[Xq];go_wp2_with fail
     all_goals
      rw[Xq];go_wp2_with fail
   all_goals
    rw[Xq];go_wp2_with fail;rw[Xq];go_wp2_with fail;go_ret;exact⟨by simp,H0.out⟩
  ·go_enter func12,ntmps12;go_wp2_with fail;refine wp_loop_rounds 4 ?_;rw[Xq];go_wp2_with fail;go_ret;exact⟨by simp,H0.out⟩
 ·go_enter func12,ntmps12;go_wp2_with fail;refine wp_loop_rounds 4 ?_;rw[Xq];go_wp2_with fail;go_ret;exact⟨by simp,H0.out⟩
theorem Uza (x:Smp)(w:World):Calls prog 30 #[Udr x] w (Ub (.agg x.cells) w):=by
 obtain⟨t,s,⟨v0,v1,v2⟩⟩:=x;dsimp only[Udr,Smp.cells];go_enter func30,ntmps30;go_wp2_with fail;exact Xk (results_cell_row results30 _ _ (w.heap.size+1) 91 _ (0,0) _ rfl (Box.at_ (by simp) _ _) underlying91 rfl (by kernel_rfl)) rfl ⟨rfl,((Xb _ w).alloc (Xa _) _).alloc (by simp) _⟩
def Uli (h x:Int):Int:=IntKind.u64.wrap (bits .xor .u64 h x*1099511628211)
def Uin (ms:List Int):Int:=ms.foldl Uli 14695981039346656037
theorem Uzb (ms:List Int){k:Nat}(hk:k<ms.length):Uin (ms.take (k+1))=Uli (Uin (ms.take k)) (ms.getD k 0):=by
 unfold Uin;rw[List.take_succ_eq_append_getElem hk,List.foldl_append];simp[hk]
theorem Uhp {v:Value}{ms:List Int}{w:World}(h:Yx w v ms)(hl:ms.length≤1000):Calls prog 31 #[v] w (fun e w'=>e = .returned (.int .u64 (Uin ms))∧w=w'):=by
 obtain⟨A,c,rfl,hc1,hc2,hA⟩:=h.1.form;have H:=Qd h;have HL:=Qd hl;obtain⟨n,hn⟩:∃n,ms.length=n:=⟨_,rfl⟩;rw[hn];have HN:=Qd hn;clear h hA hc1 hc2 hl;have hn2:n≤1000:=by have:=HL.out;omega
 clear hn;go_enter func31,ntmps31;go_wp2_with fail;go_loopw [8,3] (fun i s wr=>wr=w∧∃k:Nat,k≤n∧i = .int .i64 (k:Int)∧s = .int .u64 (Uin (ms.take k))) (fun i _ _=>n-(intOf i).toNat)
 case atStart=>exact⟨rfl,0,Nat.zero_le _,rfl,rfl⟩
 case round =>
  obtain⟨rfl,k,hk,rfl,rfl⟩:=hrel;by_cases hlt:k<n
  ·have hkl:k<ms.length:=by rw[HN.out];exact hlt
   have h2:=H.out;rw[HN.out.symm] at hk;obtain⟨b,off,hA,hbl,c0⟩:∃b off,A=some ⟨b,off,none⟩∧b<wr.heap.size∧wr.cell? ⟨b,off+k,none⟩=some (.int .u64 (ms.getD k 0)):=h2.at_ rfl hkl;subst hA;have hki:(k:Int)<n:=by omega
   have hk0:(0:Int)≤k:=by omega
   have HS:=Qd (Uzb ms hkl);obtain⟨x,hx⟩:∃x,ms.getD k 0=x:=⟨_,rfl⟩;rw[hx] at c0 HS;clear h2 hk hkl hx;generalize Uin (ms.take k)=s0 at *;have HS2:Hid (Uin (ms.take (k+1))=IntKind.u64.wrap (bits .xor .u64 s0 x*1099511628211)):=Qd HS.out;obtain⟨s1,hs1⟩:∃s,Uin (ms.take (k+1))=s:=⟨_,rfl⟩;rw[hs1] at HS2;have HS1:=Qd hs1;clear HS hs1;have e1:IntKind.u64.wrap (bits .xor .u64 s0 x*1099511628211)=s1:=HS2.out.symm;go_wp2_with fail;go_roundw
   case rel=>exact⟨trivial,k+1,by omega,by go_num,by rw[HS1.out]⟩
   case measure=>simp[intOf];omega
  ·obtain rfl:k=n:=by omega
   go_wp2_with fail;go_ret;exact⟨by rw[←HN.out,List.take_length];rfl,rfl⟩
theorem Uey (a b:Smp)(w:World):Calls prog 105 #[Udr a,Udr b] w (Ub (.bool (Uaa a b)) w):=by
 obtain⟨at_,as_,⟨ax,ay,az⟩⟩:=a;obtain⟨bt,bs,⟨bx,by_,bz⟩⟩:=b;have F:Hid (Uaa ⟨at_,as_,⟨ax,ay,az⟩⟩ ⟨bt,bs,⟨bx,by_,bz⟩⟩=decide (orI (Lib.compareInt at_ bt) (Lib.compareInt as_ bs)<0)):=Qd rfl;rw[F.out];clear F;dsimp only[Udr,Smp.cells];have KC:=Qd (fun(x y:Int) (w:World)=>Tryz.cmp_Compare_int x y w);generalize Lib.compareInt=cmp at *;have D0:=Qd (Duo.new w 40 #[.int .i64 at_,.int .i64 as_,.int .i64 ax,.int .i64 ay,.int .i64 az] 40 #[.int .i64 bt,.int .i64 bs,.int .i64 bx,.int .i64 by_,.int .i64 bz]);have CE:Hid (∀W,Duo w 40 #[.int .i64 at_,.int .i64 as_,.int .i64 ax,.int .i64 ay,.int .i64 az] 40 #[.int .i64 bt,.int .i64 bs,.int .i64 bx,.int .i64 by_,.int .i64 bz] W→W.cell? ⟨w.heap.size,0,none⟩=some (.int .i64 at_)∧W.cell? ⟨w.heap.size,1,none⟩=some (.int .i64 as_)∧W.cell? ⟨w.heap.size+1,0,none⟩=some (.int .i64 bt)∧W.cell? ⟨w.heap.size+1,1,none⟩=some (.int .i64 bs)) :=
  Qd (fun W H=>⟨H.1.cell 0,H.1.cell 1,H.2.1.cell 0,H.2.1.cell 1⟩)
 go_enter func105,ntmps105;go_upto_region 1 with fail
 refine Uq fun W0 hW0=>?_
 rw[←hW0] at D0;clear hW0;have C1:=Qd (CE.out _ (Duo.drew D0.out));have C2:=Qd (CE.out _ (Duo.drew (D0.out.alloc (.cells #[.int .i64 (cmp at_ bt),.int .i64 (cmp as_ bs)] 3))));have C3:=Qd (CE.out _ ((Duo.drew D0.out).alloc (.cells #[.int .i64 (cmp at_ bt),.int .i64 (cmp as_ bs)] 3)));go_region_held3 (fun w'=>w'.cell? ⟨w.heap.size,0,none⟩=some (.int .i64 at_)∧w'.cell? ⟨w.heap.size,1,none⟩=some (.int .i64 as_)∧w'.cell? ⟨w.heap.size+1,0,none⟩=some (.int .i64 bt)∧w'.cell? ⟨w.heap.size+1,1,none⟩=some (.int .i64 bs))
  (first|with_reducible exact C1.out|with_reducible exact C2.out|with_reducible exact C3.out)
  (first|(go_at_call 127;refine(KC.out _ _ _).mono ?_;rintro e w1 ⟨rfl,rfl⟩)|(go_at_call 126;refine(Uub (g:=W0.heap.size) ((Box.new W0.drew _ #[_,_]).cell 0) ((Box.new W0.drew _ #[_,_]).cell 1)).mono ?_;rintro e w1 ⟨rfl,rfl⟩))
 rename_i hz;clear hz;go_wp2_with fail;go_ret;exact⟨rfl,(Duo.drew (D0.out.alloc _)).2.2⟩
def Ubr (n:Int):Int:=IntKind.u64.wrap n
def Yk (x:Smp):List Int:=if Ubg x then (x.list.map Ubr)++[Uin (x.list.map Ubr)] else []
theorem Ujd (n:Int):W64 (Ubr n):=by unfold Ubr W64;rw[Xg];omega
theorem Uzc (h x:Int):W64 (Uli h x):=by unfold Uli;exact Ujd _
theorem U4e:∀ms:List Int,W64 (Uin ms):=by
 intro ms;unfold Uin;have:∀(l:List Int) (h:Int),W64 h→W64 (l.foldl Uli h):=by
  intro l
  induction l with
  | nil=>exact fun h hh=>hh
  | cons x l ih=>exact fun h _=>ih _ (Uzc h x)
 exact this ms _ (by unfold W64;omega)
structure Lst (w:World) (v:Value) (ms:List Int) (W:World):Prop where
 own:Own W w.heap.size v ms
 below:Below w.heap.size w W
theorem Lst.grow {w W W':World}{v v':Value}{ms:List Int}{x:Int}{n m:Nat}(H:Lst w v ms W)(hn:n=ms.length)(hm:m=n+1)(hx:W64 x)(ho:W'.ownsRow w.heap.size 33 1 v' m (Uam ms++[.int .u64 x]))(hg:(W.alloc (.cells #[.int .u64 x] 33)).grownBy W' v.ownBlock):Lst w v' (ms++[x]) W':=by
 subst hn hm;refine⟨⟨?_,?_⟩,(H.below.alloc H.below.size _).grown hg (by have:=H.below.size;simp;omega) (fun j hj=>(H.own.1.lt j hj).1)⟩
 ·have e:Uam (ms++[x])=Uam ms++[.int .u64 x]:=by simp[Uam]
  rw[e,List.length_append];exact ho
 ·intro y hy;rcases List.mem_append.1 hy with h|h
  ·exact H.own.2 y h
  ·simp at h;subst h;exact hx
theorem ix5 (a b c d e:Int):(∀w,(Instr.index 91 (.agg #[.int .i64 a,.int .i64 b,.int .i64 c,.int .i64 d,.int .i64 e]) (.int .i64 0)).run prog w = .ok (.int .i64 a) w)∧(∀w,(Instr.index 91 (.agg #[.int .i64 a,.int .i64 b,.int .i64 c,.int .i64 d,.int .i64 e]) (.int .i64 1)).run prog w = .ok (.int .i64 b) w) ∧
  (∀w,(Instr.index 91 (.agg #[.int .i64 a,.int .i64 b,.int .i64 c,.int .i64 d,.int .i64 e]) (.int .i64 2)).run prog w = .ok (.int .i64 c) w)∧(∀w,(Instr.index 91 (.agg #[.int .i64 a,.int .i64 b,.int .i64 c,.int .i64 d,.int .i64 e]) (.int .i64 3)).run prog w = .ok (.int .i64 d) w) ∧
  (∀w,(Instr.index 91 (.agg #[.int .i64 a,.int .i64 b,.int .i64 c,.int .i64 d,.int .i64 e]) (.int .i64 4)).run prog w = .ok (.int .i64 e) w) :=
 ⟨fun _=>by kernel_rfl,fun _=>by kernel_rfl,fun _=>by kernel_rfl,fun _=>by kernel_rfl,fun _=>by kernel_rfl⟩
theorem Ulj (x:Smp)(w:World):Calls prog 14 #[Udr x] w (Ubj (Yk x) w):=by
 obtain⟨i0,hif,hz0,hz1,hz2⟩:=info_parts Ugu;have KS:=Qd (fun w=>Uds x w);have KN:=Qd (fun w=>Uza x w);by_cases h:Ubg x;rotate_right
 focus
  have F:Hid (Yk x=[]):=Qd (by unfold Yk;rw[if_neg h]);rw[Xh h] at KS;rw[F.out];clear F h KN;obtain⟨t,s,⟨v0,v1,v2⟩⟩:=x;dsimp only[Udr,Smp.cells] at KS ⊢
 rotate_right
 focus
  have F:Hid (Yk x=(x.list.map Ubr)++[Uin (x.list.map Ubr)]):=Qd (by unfold Yk;rw[if_pos h]);rw[Xi h] at KS;rw[F.out];clear F h;obtain⟨t,s,⟨v0,v1,v2⟩⟩:=x;dsimp only[Udr,Smp.cells,Smp.list] at KS KN ⊢;obtain⟨ix0,ix1,ix2,ix3,ix4⟩:=ix5 t s v0 v1 v2;have HU0:=Qd (show Ubr t=IntKind.u64.wrap t from rfl);have HU1:=Qd (show Ubr s=IntKind.u64.wrap s from rfl);have HU2:=Qd (show Ubr v0=IntKind.u64.wrap v0 from rfl);have HU3:=Qd (show Ubr v1=IntKind.u64.wrap v1 from rfl);have HU4:=Qd (show Ubr v2=IntKind.u64.wrap v2 from rfl);have HW0:=Qd (Ujd t);have HW1:=Qd (Ujd s);have HW2:=Qd (Ujd v0);have HW3:=Qd (Ujd v1);have HW4:=Qd (Ujd v2);simp only[List.map_cons,List.map_nil];generalize Ubr t=z0 at *;generalize Ubr s=z1 at *;generalize Ubr v0=z2 at *;generalize Ubr v1=z3 at *;generalize Ubr v2=z4 at *;have u0:=HU0.out.symm;have u1:=HU1.out.symm;have u2:=HU2.out.symm;have u3:=HU3.out.symm;have u4:=HU4.out.symm;have B0:=Qd (Box.new w 40 #[.int .i64 t,.int .i64 s,.int .i64 v0,.int .i64 v1,.int .i64 v2])
 all_goals
  have H0:Hid (Below w.heap.size w (w.alloc (.cells #[.int .i64 t,.int .i64 s,.int .i64 v0,.int .i64 v1,.int .i64 v2] 40))):=Qd ((Xb _ w).alloc (Xa _) _);go_enter func14,ntmps14;go_wp2_with fail;refine(KS.out _).mono ?_;rintro e w1 ⟨rfl,hb⟩
 ·have B1:=Qd (B0.out.kept hb);have H1:=Qd (Ua H0.out hb H0.out.size);clear hb B0 H0 KS;obtain⟨⟨c0,c1,c2,c3,c4⟩,_⟩:=Udl B1.out;go_wp2_with fail;refine(KN.out _).mono ?_;rintro e w2 ⟨rfl,hb⟩;have L0:Hid (Lst w (.slice none 0 0) [] w2):=Qd ⟨⟨by simpa [Uam] using World.ownsRow_nil _ _ _ _,by simp⟩,Ua H1.out hb H1.out.size⟩;clear hb B1 H1 KN c0 c1 c2 c3 c4;go_wp2_with fail;refine wp_loop_rounds 6 ?_;rw[Xq];go_wp2_with (at_builtin;refine Ug _ rfl _ _ 31 rfl w.heap.size 33 i0 _ 1 8 underlying31 hif hz0 hz1 hz2 rfl (by decide) _ _ _ rfl (L0.out.own.1.alloc _) _ 1 [.int .u64 z0] rfl (Sl.of_own (Yt _ _ 1 #[.int .u64 z0] 1 rfl (by decide))) (by intro u hu;simp at hu;subst hu;rfl) (by simp[maxLen]) (by simp) (by have:=L0.out.below.size;simp;omega) ?_);intro y0 x0 hown hgrow _;have L1:=Qd (L0.out.grow rfl rfl HW0.out hown hgrow);clear hown hgrow L0;go_wp2_with fail;rw[Xq];go_wp2_with (at_builtin;refine Ug _ rfl _ _ 31 rfl w.heap.size 33 i0 _ 1 8 underlying31 hif hz0 hz1 hz2 rfl (by decide) _ _ _ rfl (L1.out.own.1.alloc _) _ 1 [.int .u64 z1] rfl (Sl.of_own (Yt _ _ 1 #[.int .u64 z1] 1 rfl (by decide))) (by intro u hu;simp at hu;subst hu;rfl) (by simp[maxLen]) (by simp) (by have:=L1.out.below.size;simp;omega) ?_);intro y1 x1 hown hgrow _;have L2:=Qd (L1.out.grow rfl rfl HW1.out hown hgrow);clear hown hgrow L1;go_wp2_with fail;rw[Xq];go_wp2_with (at_builtin;refine Ug _ rfl _ _ 31 rfl w.heap.size 33 i0 _ 1 8 underlying31 hif hz0 hz1 hz2 rfl (by decide) _ _ _ rfl (L2.out.own.1.alloc _) _ 1 [.int .u64 z2] rfl (Sl.of_own (Yt _ _ 1 #[.int .u64 z2] 1 rfl (by decide))) (by intro u hu;simp at hu;subst hu;rfl) (by simp[maxLen]) (by simp) (by have:=L2.out.below.size;simp;omega) ?_);intro y2 x2 hown hgrow _;have L3:=Qd (L2.out.grow rfl rfl HW2.out hown hgrow);clear hown hgrow L2;go_wp2_with fail;rw[Xq];go_wp2_with (at_builtin;refine Ug _ rfl _ _ 31 rfl w.heap.size 33 i0 _ 1 8 underlying31 hif hz0 hz1 hz2 rfl (by decide) _ _ _ rfl (L3.out.own.1.alloc _) _ 1 [.int .u64 z3] rfl (Sl.of_own (Yt _ _ 1 #[.int .u64 z3] 1 rfl (by decide))) (by intro u hu;simp at hu;subst hu;rfl) (by simp[maxLen]) (by simp) (by have:=L3.out.below.size;simp;omega) ?_);intro y3 x3 hown hgrow _;have L4:=Qd (L3.out.grow rfl rfl HW3.out hown hgrow);clear hown hgrow L3;go_wp2_with fail;rw[Xq];go_wp2_with (at_builtin;refine Ug _ rfl _ _ 31 rfl w.heap.size 33 i0 _ 1 8 underlying31 hif hz0 hz1 hz2 rfl (by decide) _ _ _ rfl (L4.out.own.1.alloc _) _ 1 [.int .u64 z4] rfl (Sl.of_own (Yt _ _ 1 #[.int .u64 z4] 1 rfl (by decide))) (by intro u hu;simp at hu;subst hu;rfl) (by simp[maxLen]) (by simp) (by have:=L4.out.below.size;simp;omega) ?_);intro y4 x4 hown hgrow _;have L5:=Qd (L4.out.grow rfl rfl HW4.out hown hgrow);clear hown hgrow L4;go_wp2_with fail;rw[Xq];go_wp2_with fail;simp only[List.nil_append,List.cons_append] at L5;have KM:=Qd (Uhp L5.out.own.words (by simp));refine KM.out.mono ?_;rintro e w9 ⟨rfl,rfl⟩;have HWS:=Qd (U4e [z0,z1,z2,z3,z4]);generalize Uin [z0,z1,z2,z3,z4]=sm at *;clear KM;go_wp2_with (at_builtin;refine Ug _ rfl _ _ 31 rfl w.heap.size 33 i0 _ 1 8 underlying31 hif hz0 hz1 hz2 rfl (by decide) _ _ _ rfl (L5.out.own.1.alloc _) _ 1 [.int .u64 sm] rfl (Sl.of_own (Yt _ _ 1 #[.int .u64 sm] 1 rfl (by decide))) (by intro u hu;simp at hu;subst hu;rfl) (by simp[maxLen]) (by simp) (by have:=L5.out.below.size;simp;omega) ?_);intro y5 x5 hown hgrow _;have L6:=Qd (L5.out.grow rfl rfl HWS.out hown hgrow);clear hown hgrow L5;go_wp2_with fail;go_ret;exact⟨_,rfl,by simpa using L6.out.own,L6.out.below⟩
 ·have H1:=Qd (Ua H0.out hb H0.out.size);clear hb H0 KS;go_wp2_with fail;go_ret;exact⟨_,rfl,⟨by simpa [Uam] using World.ownsRow_nil _ _ _ _,by simp⟩,H1.out⟩
end Go.Proofs.YtdaflmjfeoacaaaGreat
