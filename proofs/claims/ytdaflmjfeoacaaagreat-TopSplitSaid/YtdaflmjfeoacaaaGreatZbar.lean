/- Part of the proof of TopTry, TopSplit: AxA, TuB. Conditions: none. -/
import Derived.Test.YtdaflmjfeoacaaaGreatZbaq
import Derived.Laws.EntriesVeiled
set_option linter.all false
set_option maxHeartbeats 16000000
set_option maxRecDepth 4000
namespace Go.Proofs.YtdaflmjfeoacaaaGreat
open Tryz
open Go.RowKit
def Axs.cells (x:Axs):Array Value:=#[.int .i64 x.p,.int .i64 x.v,.int .i64 x.pp,.int .i64 x.pv,.int .i64 x.vv,.bool x.bad]
def axv (x:Axs):Value := .agg x.cells
theorem Uy:(prog.info? 49).map (·.size)=some 6:=by kernel_rfl
theorem Uap (x:Int)(w:World):Calls prog 42 #[.int .i64 x] w (Ub (.bool (!chg x)) w):=by
 have KL:=Qd (fun w=>Yv x w);generalize Um x=b at *;generalize chg x=c at *;go_enter func42,ntmps42;go_wp2_with fail;refine(KL.out _).mono ?_;rintro e w1 ⟨rfl,rfl⟩;go_wp2_with fail;go_ret;exact⟨rfl,Xb _ _⟩
theorem Ub7 (n:Int)(w:World):Calls prog 43 #[.int .i64 n] w (Ub (.bool (decide (Z0 n))) w):=by
 have F:Hid (decide (Z0 n)=(decide (4096≤n)&&decide (n≤4503599627370496))):=Qd (by
  have e:Z0 n↔(4096≤n∧n≤4503599627370496):=Iff.rfl;have e2:decide (Z0 n)=decide (4096≤n∧n≤4503599627370496):=decide_eq_decide.2 e
  rw[e2];simp)
 rw[F.out];clear F;by_cases h:4096≤n
 ·have e1:decide (4096≤n)=true:=Xi h;go_enter func43,ntmps43;go_wp2_with fail;go_ret;exact⟨by simp[h],Xb _ _⟩
 ·have e1:decide (4096≤n)=false:=Xh h;go_enter func43,ntmps43;go_wp2_with fail;go_ret;exact⟨by simp<;>(intros;omega),Xb _ _⟩
theorem Um8 (x:Axs)(w:World):Calls prog 22 #[axv x] w (Ub (.bool (decide (Zg x))) w):=by
 obtain⟨p,v,pp,pv,vv,bd⟩:=x
 have F:Hid (decide (Zg ⟨p,v,pp,pv,vv,bd⟩)=(!chg p&&(!chg v&&(!chg pv&&(decide (Z0 pp)&&decide (Z0 vv)))))):=Qd (by
  have e:Zg ⟨p,v,pp,pv,vv,bd⟩↔(chg p=false∧chg v=false∧chg pv=false∧Z0 pp∧Z0 vv):=Iff.rfl;have e2:decide (Zg ⟨p,v,pp,pv,vv,bd⟩)=decide (chg p=false∧chg v=false∧chg pv=false∧Z0 pp∧Z0 vv):=decide_eq_decide.2 e;rw[e2]
  cases chg p<;>cases chg v<;>cases chg pv<;>simp)
 rw[F.out];clear F;have K0:=Qd (fun w=>Uap p w);have K1:=Qd (fun w=>Uap v w);have K2:=Qd (fun w=>Uap pv w);have K3:=Qd (fun w=>Ub7 pp w);have K4:=Qd (fun w=>Ub7 vv w);generalize (!chg p)=b0 at *;generalize (!chg v)=b1 at *;generalize (!chg pv)=b2 at *;generalize decide (Z0 pp)=b3 at *;generalize decide (Z0 vv)=b4 at *;dsimp only[axv,Axs.cells];have B0:Hid (Box (w.alloc (.cells #[.int .i64 p,.int .i64 v,.int .i64 pp,.int .i64 pv,.int .i64 vv,.bool bd] 49)) w.heap.size 49 #[.int .i64 p,.int .i64 v,.int .i64 pp,.int .i64 pv,.int .i64 vv,.bool bd]):=Qd (Box.new w _ _);have H0:Hid (Below w.heap.size w (w.alloc (.cells #[.int .i64 p,.int .i64 v,.int .i64 pp,.int .i64 pv,.int .i64 vv,.bool bd] 49))):=Qd ((Xb _ w).alloc (Xa _) _);go_enter func22,ntmps22;go_wp2_with fail;refine(K0.out _).mono ?_;rintro e w1 ⟨rfl,hb⟩;have B1:=Qd (B0.out.kept hb);have H1:=Qd (Ua H0.out hb H0.out.size);clear hb B0 H0;cases b0
 ·go_wp2_with fail;go_ret;exact⟨by simp,H1.out⟩
 ·have c1:=B1.out.cell 1;go_wp2_with fail;refine(K1.out _).mono ?_;rintro e w2 ⟨rfl,hb⟩;have B2:=Qd (B1.out.kept hb);have H2:=Qd (Ua H1.out hb H1.out.size);clear hb B1 H1;cases b1
  ·go_wp2_with fail;go_ret;exact⟨by simp,H2.out⟩
  ·have c2:=B2.out.cell 3;go_wp2_with fail;refine(K2.out _).mono ?_;rintro e w3 ⟨rfl,hb⟩;have B3:=Qd (B2.out.kept hb);have H3:=Qd (Ua H2.out hb H2.out.size);clear hb B2 H2;cases b2
   ·go_wp2_with fail;go_ret;exact⟨by simp,H3.out⟩
   ·have c3:=B3.out.cell 2;go_wp2_with fail;refine(K3.out _).mono ?_;rintro e w4 ⟨rfl,hb⟩;have B4:=Qd (B3.out.kept hb);have H4:=Qd (Ua H3.out hb H3.out.size);clear hb B3 H3;cases b3
    ·go_wp2_with fail;go_ret;exact⟨by simp,H4.out⟩
    ·have c4:=B4.out.cell 4;go_wp2_with fail;refine(K4.out _).mono ?_;rintro e w5 ⟨rfl,hb⟩;have B5:=Qd (B4.out.kept hb);have H5:=Qd (Ua H4.out hb H4.out.size);clear hb B4 H4;go_wp2_with fail;go_ret;exact⟨by simp,H5.out⟩
theorem Ule (a b:Int)(w:World):Calls prog 48 #[.int .i64 a,.int .i64 b] w (Ub (axv (Ueb a b)) w):=by
 have K0:=Qd (fun w=>Yv a w);have K1:=Qd (fun w=>Yv b w);dsimp only[axv,Axs.cells,Ueb];generalize Um a=x at *;generalize Um b=y at *;generalize chg a=c at *;generalize chg b=d at *;have B0:Hid (Box (w.alloc (.cells #[.int .i64 0,.int .i64 0,.int .i64 0,.int .i64 0,.int .i64 0,.bool false] 49)) w.heap.size 49 #[.int .i64 0,.int .i64 0,.int .i64 0,.int .i64 0,.int .i64 0,.bool false]):=Qd (Box.new w _ _);have H0:Hid (Below w.heap.size w (w.alloc (.cells #[.int .i64 0,.int .i64 0,.int .i64 0,.int .i64 0,.int .i64 0,.bool false] 49))):=Qd ((Xb _ w).alloc (Xa _) _);cases c
 all_goals
  go_enter func48,ntmps48;go_wp2_with fail;refine(K0.out _).mono ?_;rintro e w1 ⟨rfl,rfl⟩;go_wp2_with fail;refine(K1.out _).mono ?_;rintro e w1 ⟨rfl,rfl⟩;go_wp2_with (with_reducible first|refine Qh 49 ?_);refine Uf.go w.heap.size rfl rfl B0.out (by kernel_rfl) rfl (by simp[Value.oneCell']) ?_;go_wp2_with fail;exact Xk (results_cell_row results48 _ _ w.heap.size 49 _ (0,0) _ rfl (B0.out.row _) underlying49 rfl Uy) rfl ⟨by simp,Uc H0.out (Xa _) _⟩
def U8r (v:Nat):Value := .func (.func 200) #[] #[.pointer (some ⟨v,0,none⟩)]
def U5g (p:Pos)(v:Nat):Array Value:=#[.int .i64 p.q.w,.int .i64 p.q.x,.int .i64 p.q.y,.int .i64 p.q.z,.int .i64 p.w.x,.int .i64 p.w.y,.int .i64 p.w.z,.bool p.bad,U8r v]
structure Wk (b v:Nat) (p:Pos) (W:World):Prop where
 at_:Box W b 268 (U5g p v)
 var:Box W v 264 #[.pointer (some ⟨b,0,none⟩)]
 ne:b≠v
theorem Wk.kept {b v:Nat}{p:Pos}{W W':World}(H:Wk b v p W)(hb:Below W.heap.size W W'):Wk b v p W':=⟨H.at_.kept hb,H.var.kept hb,H.ne⟩
def U5h (p:Pos)(w:World)(e:Ending)(w':World):Prop:=∃b v,e = .returned (.pointer (some ⟨b,0,none⟩))∧w.heap.size≤b∧w.heap.size≤v∧Wk b v p w'∧Below w.heap.size w w'
theorem Ufo (p:Pos)(w:World):Calls prog 187 #[pv p] w (U5h (Yb p) w):=by
 have KK:=Qd (fun w=>Uld p w);generalize Yb p=p' at *;obtain⟨⟨q0,q1,q2,q3⟩,⟨w0,w1,w2⟩,bd⟩:=p';obtain⟨cs,hcs⟩:∃cs,p.cells=cs:=⟨_,rfl⟩;have e1:pv p = .agg cs:=by rw[←hcs];rfl
 have e2:cs.size=8:=by rw[←hcs];rfl
 rw[e1] at KK ⊢;clear e1 hcs;dsimp only[pv,Pos.cells] at KK;have HE:=Qd e2;clear e2;go_enter func187,ntmps187;go_wp2_with (with_reducible first|refine Qg 47 ?_);refine Uo.go w.heap.size rfl (Box.new w _ _) underlying47 rfl (by rw[HE.out];kernel_rfl) ?_;go_wp2_with fail;refine(KK.out _).mono ?_;rintro e w3 ⟨rfl,hb⟩;have HB:=Qd (Zw hb);clear hb KK;go_wp2_with fail;go_ret;exact⟨w3.heap.size,w3.heap.size+1,rfl,HB.out.size,by have:=HB.out.size;omega,⟨(Box.new _ _ _).alloc _,Box.at_ (by simp) _ _,by omega⟩,(HB.out.alloc HB.out.size _).alloc (by have:=HB.out.size;simp;omega) _⟩
def Uuf (v:Value)(b va:Nat)(p:Pos)(w:World)(e:Ending)(w':World):Prop:=e = .returned v∧Wk b va p w'∧w.grownBy w' (some b)
theorem Ufp (w:World)(r:Option Nat):w.grownBy w.drew r:=⟨rfl,rfl,rfl,Xa _,fun _ _ _=>rfl⟩
theorem Uh (w:World)(b j:Nat)(v:Value):w.grownBy (w.setCell ⟨b,j,none⟩ v) (some b) :=
 ⟨rfl,rfl,rfl,(KeepsWalks.setCell w _ v).size,fun k _ hk=>Below.heap_setCell _ _ _ k (fun e=>hk (by rw[e]))⟩
theorem Un {x y z:World}{r:Option Nat}(h:x.grownBy y r)(k:y.grownBy z r):x.grownBy z r :=
 ⟨k.os.trans h.os,k.tape.trans h.tape,k.output.trans h.output,Xd h.size k.size,fun j hj hr=>(k.block j (Xe hj h.size) hr).trans (h.block j hj hr)⟩
theorem Box.grown {w w':World}{g b:Nat}{t:TypeId}{cs:Array Value}(h:Box w g t cs)(hg:w.grownBy w' (some b))(hne:g≠b):Box w' g t cs:=(hg.block g h.lt (fun e=>hne (by injection e))).trans h
theorem Ucn {B:Nat}{a w w':World}{b:Nat}(h:Below B a w)(hg:w.grownBy w' (some b))(hB:B≤w.heap.size)(hb:B≤b):Below B a w':=h.grown hg hB (fun k hk=>by cases hk;exact hb)
theorem Yg {w w':World}{b:Nat}(h:Below w.heap.size w w'):w.grownBy w' (some b):=Ugb h (some b)
theorem Wk.setBad {b v:Nat}{q:V4}{u:V3}{x:Bool}{w:World}(H:Wk b v ⟨q,u,x⟩ w)(y:Bool):Wk b v ⟨q,u,y⟩ (w.setCell ⟨b,7,none⟩ (.bool y)).drew∧w.grownBy (w.setCell ⟨b,7,none⟩ (.bool y)).drew (some b) :=
 ⟨⟨(H.at_.set_ 7 (.bool y)).drew,(H.var.far (show v≠b from fun e=>H.ne e.symm) _).drew,H.ne⟩,Un (Uh _ _ _ _) (Ufp _ _)⟩
theorem Uho {b v:Nat}{p:Pos}{w:World}(c:Bool)(H:Wk b v p w):Calls prog 200 #[.bool c,.pointer (some ⟨v,0,none⟩)] w (Uuf (.tuple #[]) b v { p with bad:=p.bad||c } w):=by
 obtain⟨⟨q0,q1,q2,q3⟩,⟨w0,w1,w2⟩,bd⟩:=p;have h1:=H.var.cell 0;have h2:w.cell? ⟨b,7,none⟩=some (.bool bd):=H.at_.cell 7;have h3:w.frozen? ⟨b,7,none⟩=false:=H.at_.frozen 7;have HH:=Qd H;clear H;cases bd
 all_goals
  go_enter func200,ntmps200;go_region;refine Xk (results_none rfl _ _ _) rfl ⟨rfl,?_⟩
  first
   | with_reducible exact HH.out.setBad c
   | with_reducible exact HH.out.setBad true
   | exact HH.out.setBad c
   | exact HH.out.setBad true
theorem Uqe {b va:Nat}{p:Pos}{w:World}(x0 x1 x2:Int)(c:Bool)(H:Wk b va p w):Calls prog 189 #[.pointer (some ⟨b,0,none⟩),.agg #[.int .i64 x0,.int .i64 x1,.int .i64 x2],.bool c] w (Uuf (.agg #[.int .i64 x0,.int .i64 x1,.int .i64 x2]) b va { p with bad:=p.bad||c } w):=by
 have KT:=Qd (fun w H=>Uho (b:=b) (v:=va) (p:=p) (w:=w) c H);have D0:=Qd (Duo.new w 24 #[.int .i64 x0,.int .i64 x1,.int .i64 x2] 24 #[.int .i64 0,.int .i64 0,.int .i64 0]);have H1:Hid (Wk b va p ((w.alloc (.cells #[.int .i64 x0,.int .i64 x1,.int .i64 x2] 24)).alloc (.cells #[.int .i64 0,.int .i64 0,.int .i64 0] 24))):=Qd (H.kept (((Xb _ w).alloc (Xa _) _).alloc (by simp) _));have hlt:=H.at_.lt;have hvlt:=H.var.lt;have c1:((w.alloc (.cells #[.int .i64 x0,.int .i64 x1,.int .i64 x2] 24)).alloc (.cells #[.int .i64 0,.int .i64 0,.int .i64 0] 24)).cell? ⟨b,8,none⟩=some (.func (.func 200) #[] #[.pointer (some ⟨va,0,none⟩)]):=H1.out.at_.cell 8;generalize { p with bad:=p.bad||c }=p' at *;clear H;go_enter func189,ntmps189;go_wp2_with fail;refine(KT.out _ H1.out).mono ?_;rintro e w1 ⟨rfl,h2,hg⟩;have H2:=Qd h2;have hg0:Hid (w.grownBy w1 (some b)):=Qd (Un (Yg D0.out.2.2) hg);have BA:=Qd (D0.out.1.grown hg (by omega));have BB:=Qd (D0.out.2.1.grown hg (by omega));clear h2 hg H1 D0 KT c1;obtain⟨n0,n1,n2,n3,n4,n5⟩:=Ubz BA.out;obtain⟨m0,m1,m2,m3,m4,m5⟩:=Ubz BB.out;go_wp2_with fail;have hz:w1.grownBy (((w1.setCell ⟨w.heap.size+1,0,none⟩ (.int .i64 x0)).setCell ⟨w.heap.size+1,1,none⟩ (.int .i64 x1)).setCell ⟨w.heap.size+1,2,none⟩ (.int .i64 x2)) (some (w.heap.size+1)):=Un (Un (Uh _ _ _ _) (Uh _ _ _ _)) (Uh _ _ _ _);exact Xk (results_cell_row results189 _ _ (w.heap.size+1) 24 _ (0,0) _ rfl (set3 BB.out _ _ _) underlying24 rfl Za) rfl ⟨rfl,⟨H2.out.at_.grown hz (by omega),H2.out.var.grown hz (by omega),H2.out.ne⟩,⟨hz.os.trans hg0.out.os,hz.tape.trans hg0.out.tape,hz.output.trans hg0.out.output,Xd hg0.out.size hz.size,fun j hj hr=>(hz.block j (Xe hj hg0.out.size) (fun e=>by injection e;omega)).trans (hg0.out.block j hj hr)⟩⟩
theorem Uv4 {b va:Nat}{p:Pos}{w:World}(x0 x1 x2 x3:Int)(c:Bool)(H:Wk b va p w):Calls prog 201 #[.pointer (some ⟨b,0,none⟩),.agg #[.int .i64 x0,.int .i64 x1,.int .i64 x2,.int .i64 x3],.bool c] w (Uuf (.agg #[.int .i64 x0,.int .i64 x1,.int .i64 x2,.int .i64 x3]) b va { p with bad:=p.bad||c } w):=by
 have KT:=Qd (fun w H=>Uho (b:=b) (v:=va) (p:=p) (w:=w) c H);have D0:=Qd (Duo.new w 38 #[.int .i64 x0,.int .i64 x1,.int .i64 x2,.int .i64 x3] 38 #[.int .i64 0,.int .i64 0,.int .i64 0,.int .i64 0]);have H1:Hid (Wk b va p ((w.alloc (.cells #[.int .i64 x0,.int .i64 x1,.int .i64 x2,.int .i64 x3] 38)).alloc (.cells #[.int .i64 0,.int .i64 0,.int .i64 0,.int .i64 0] 38))):=Qd (H.kept (((Xb _ w).alloc (Xa _) _).alloc (by simp) _));have hlt:=H.at_.lt;have hvlt:=H.var.lt;have c1:((w.alloc (.cells #[.int .i64 x0,.int .i64 x1,.int .i64 x2,.int .i64 x3] 38)).alloc (.cells #[.int .i64 0,.int .i64 0,.int .i64 0,.int .i64 0] 38)).cell? ⟨b,8,none⟩=some (.func (.func 200) #[] #[.pointer (some ⟨va,0,none⟩)]):=H1.out.at_.cell 8;generalize { p with bad:=p.bad||c }=p' at *;clear H;go_enter func201,ntmps201;go_wp2_with fail;refine(KT.out _ H1.out).mono ?_;rintro e w1 ⟨rfl,h2,hg⟩;have H2:=Qd h2;have hg0:Hid (w.grownBy w1 (some b)):=Qd (Un (Yg D0.out.2.2) hg);have BA:=Qd (D0.out.1.grown hg (by omega));have BB:=Qd (D0.out.2.1.grown hg (by omega));clear h2 hg H1 D0 KT c1;obtain⟨n0,n1,n2,n3,n4,n5,n6,n7⟩:=Ucq BA.out;obtain⟨m0,m1,m2,m3,m4,m5,m6,m7⟩:=Ucq BB.out;go_wp2_with fail;have hz:w1.grownBy ((((w1.setCell ⟨w.heap.size+1,0,none⟩ (.int .i64 x0)).setCell ⟨w.heap.size+1,1,none⟩ (.int .i64 x1)).setCell ⟨w.heap.size+1,2,none⟩ (.int .i64 x2)).setCell ⟨w.heap.size+1,3,none⟩ (.int .i64 x3)) (some (w.heap.size+1)):=Un (Un (Un (Uh _ _ _ _) (Uh _ _ _ _)) (Uh _ _ _ _)) (Uh _ _ _ _);exact Xk (results_cell_row results201 _ _ (w.heap.size+1) 38 _ (0,0) _ rfl (set4 BB.out _ _ _ _) underlying38 rfl Ugd) rfl ⟨rfl,⟨H2.out.at_.grown hz (by omega),H2.out.var.grown hz (by omega),H2.out.ne⟩,⟨hz.os.trans hg0.out.os,hz.tape.trans hg0.out.tape,hz.output.trans hg0.out.output,Xd hg0.out.size hz.size,fun j hj hr=>(hz.block j (Xe hj hg0.out.size) (fun e=>by injection e;omega)).trans (hg0.out.block j hj hr)⟩⟩
end Go.Proofs.YtdaflmjfeoacaaaGreat
