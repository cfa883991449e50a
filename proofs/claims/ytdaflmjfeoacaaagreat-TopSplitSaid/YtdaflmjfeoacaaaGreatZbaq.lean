/- Part of the proof of TopTry, TopSplit: QuD, TuA. Conditions: none. -/
import Derived.Test.YtdaflmjfeoacaaaGreatZbap
import Derived.Test.YtdaflmjfeoacaaaGreatZbao
set_option linter.all false
set_option maxHeartbeats 16000000
set_option maxRecDepth 4000
namespace Go.Proofs.YtdaflmjfeoacaaaGreat
open Tryz
open Go.RowKit
def Ujw (w:World)(q z a:Array Value)(g:Nat)(W:World):Prop:=Box W w.heap.size 38 q∧Box W (w.heap.size+1+1) 24 z∧Box W g 38 a∧w.heap.size+1+1<g∧Below w.heap.size w W
section
variable {w W W':World} {q z a:Array Value} {g:Nat}
theorem Ujw.kept (H:Ujw w q z a g W)(hb:Below W.heap.size W W'):Ujw w q z a g W':=⟨H.1.kept hb,H.2.1.kept hb,H.2.2.1.kept hb,H.2.2.2.1,Ua H.2.2.2.2 hb H.2.2.2.2.size⟩
theorem Ujw.alloc (H:Ujw w q z a g W)(o:Obj):Ujw w q z a g (W.alloc o):=H.kept ((Xb _ W).alloc (Xa _) o)
theorem Ujw.drew (H:Ujw w q z a g W):Ujw w q z a g W.drew:=H.kept (Ue (Xb _ W) 1)
theorem Ujw.lt (H:Ujw w q z a g W):g<W.heap.size:=H.2.2.1.lt
theorem Ujw.far (H:Ujw w q z a g W){g' j:Nat}(hg:g<g')(v:Value):Ujw w q z a g (W.setCell ⟨g',j,none⟩ v) :=
 ⟨H.1.far (show w.heap.size≠g' by have:=H.2.2.2.1;omega) v,H.2.1.far (show w.heap.size+1+1≠g' by have:=H.2.2.2.1;omega) v,H.2.2.1.far (show g≠g' by omega) v,H.2.2.2.1,H.2.2.2.2.setCell (p:=⟨g',j,none⟩) (show _≤g' by have:=H.2.2.2.1;omega) v⟩
theorem Ujw.far4 (H:Ujw w q z a g W){g':Nat}(hg:g<g')(x y s r:Value):Ujw w q z a g ((((W.setCell ⟨g',0,none⟩ x).setCell ⟨g',1,none⟩ y).setCell ⟨g',2,none⟩ s).setCell ⟨g',3,none⟩ r) :=
 (((H.far hg x).far hg y).far hg s).far hg r
end
def U8q (w:World)(z b:Array Value)(g:Nat)(W:World):Prop:=Box W (w.heap.size+1+1) 24 z∧Box W g 38 b∧w.heap.size+1+1<g∧Below w.heap.size w W
theorem Ujw.fin1 {w W:World}{q z a:Array Value}{g:Nat}(H:Ujw w q z a g W)(b:Array Value):U8q w z b W.heap.size (W.alloc (.cells b 38)) :=
 ⟨(H.alloc _).2.1,Box.new _ _ _,by have:=H.lt;have:=H.2.2.2.1;omega,(H.alloc _).2.2.2.2⟩
theorem Ujw.fin2 {w W:World}{q z a:Array Value}{g g':Nat}{x1 x2 x3 x4:Value}(H:Ujw w q z a g W)(hg:g<g')(hN:Box W g' 38 #[x1,x2,x3,x4])(x y s r:Value) :
  U8q w z #[x,y,s,r] g' ((((W.setCell ⟨g',0,none⟩ x).setCell ⟨g',1,none⟩ y).setCell ⟨g',2,none⟩ s).setCell ⟨g',3,none⟩ r) :=
 ⟨(H.far4 hg x y s r).2.1,set4 hN x y s r,by have:=H.2.2.2.1;omega,(H.far4 hg x y s r).2.2.2.2⟩
theorem Uqd (q:V4)(v:V3)(w:World):Calls prog 129 #[v4 q,v3 v] w (Ub (.tuple #[v3 (Usb q v).1,.bool (Usb q v).2]) w):=by
 have F:Hid (Usb q v=(⟨(Uii (Uii q ⟨0,v.x,v.y,v.z⟩).1 (Uf9 q)).1.x,(Uii (Uii q ⟨0,v.x,v.y,v.z⟩).1 (Uf9 q)).1.y,(Uii (Uii q ⟨0,v.x,v.y,v.z⟩).1 (Uf9 q)).1.z⟩,(Uii q ⟨0,v.x,v.y,v.z⟩).2||(Uii (Uii q ⟨0,v.x,v.y,v.z⟩).1 (Uf9 q)).2)):=Qd rfl;rw[F.out];have K1:=Qd (fun w=>Ulb q ⟨0,v.x,v.y,v.z⟩ w);have KB:=Qd (fun w=>Um6 q w);have KM:=Qd (fun w=>Ulb (Uii q ⟨0,v.x,v.y,v.z⟩).1 (Uf9 q) w);generalize Uii (Uii q ⟨0,v.x,v.y,v.z⟩).1 (Uf9 q)=r at *;generalize Uii q ⟨0,v.x,v.y,v.z⟩=m at *;generalize Uf9 q=c at *;clear F;obtain⟨⟨r0,r1,r2,r3⟩,rb⟩:=r;obtain⟨⟨m0,m1,m2,m3⟩,mb⟩:=m;obtain⟨c0,c1,c2,c3⟩:=c;obtain⟨q0,q1,q2,q3⟩:=q;obtain⟨v0,v1,v2⟩:=v;dsimp only[v3,v4] at K1 KB KM ⊢;have T0:=Qd (Tri.new w 38 #[.int .i64 q0,.int .i64 q1,.int .i64 q2,.int .i64 q3] 24 #[.int .i64 v0,.int .i64 v1,.int .i64 v2] 24 #[.int .i64 0,.int .i64 0,.int .i64 0]);go_enter func129,ntmps129;go_wp2_with fail;refine(K1.out _).mono ?_;rintro e w1 ⟨rfl,hb⟩;have T1:=Qd (T0.out.kept hb);clear hb K1 T0;go_upto_region 2 with fail
 refine Uq fun W0 hW0=>?_
 have H0:Hid (Ujw w #[.int .i64 q0,.int .i64 q1,.int .i64 q2,.int .i64 q3] #[.int .i64 0,.int .i64 0,.int .i64 0] #[.int .i64 m0,.int .i64 m1,.int .i64 m2,.int .i64 m3] w1.heap.size W0):=Qd (by
  rw[hW0];exact⟨T1.out.1.alloc _,T1.out.2.2.1.alloc _,Box.new _ _ _,T1.out.2.2.1.lt,T1.out.2.2.2.alloc T1.out.2.2.2.size _⟩)
 clear hW0 T1;generalize w1.heap.size=g6 at *
 have CE:Hid (∀W,Ujw w #[.int .i64 q0,.int .i64 q1,.int .i64 q2,.int .i64 q3] #[.int .i64 0,.int .i64 0,.int .i64 0] #[.int .i64 m0,.int .i64 m1,.int .i64 m2,.int .i64 m3] g6 W→(W.cell? ⟨w.heap.size,0,none⟩=some (.int .i64 q0)∧W.cell? ⟨w.heap.size,1,none⟩=some (.int .i64 q1)∧W.cell? ⟨w.heap.size,2,none⟩=some (.int .i64 q2)∧W.cell? ⟨w.heap.size,3,none⟩=some (.int .i64 q3)) ∧
   (W.cell? ⟨g6,0,none⟩=some (.int .i64 m0)∧W.cell? ⟨g6,1,none⟩=some (.int .i64 m1)∧W.cell? ⟨g6,2,none⟩=some (.int .i64 m2)∧W.cell? ⟨g6,3,none⟩=some (.int .i64 m3))):=Qd (fun W H=>⟨⟨H.1.cell 0,H.1.cell 1,H.1.cell 2,H.1.cell 3⟩,H.2.2.1.cell 0,H.2.2.1.cell 1,H.2.2.1.cell 2,H.2.2.1.cell 3⟩)
 go_cut [8,9] (fun p c wx=>∃g,p = .pointer (some ⟨g,0,none⟩)∧c = .bool rb∧Hid (U8q w #[.int .i64 0,.int .i64 0,.int .i64 0] #[.int .i64 r0,.int .i64 r1,.int .i64 r2,.int .i64 r3] g wx))
 case first =>
  go_region_held3 (fun w'=>(w'.cell? ⟨w.heap.size,0,none⟩=some (.int .i64 q0)∧w'.cell? ⟨w.heap.size,1,none⟩=some (.int .i64 q1)∧w'.cell? ⟨w.heap.size,2,none⟩=some (.int .i64 q2)∧w'.cell? ⟨w.heap.size,3,none⟩=some (.int .i64 q3))∧(w'.cell? ⟨g6,0,none⟩=some (.int .i64 m0)∧w'.cell? ⟨g6,1,none⟩=some (.int .i64 m1)∧w'.cell? ⟨g6,2,none⟩=some (.int .i64 m2)∧w'.cell? ⟨g6,3,none⟩=some (.int .i64 m3)))
   (first|with_reducible exact CE.out _ H0.out|with_reducible exact CE.out _ H0.out.drew|with_reducible exact CE.out _ (H0.out.alloc _)|with_reducible exact CE.out _ (H0.out.alloc _).drew|with_reducible exact CE.out _ (H0.out.drew.alloc _)|with_reducible exact CE.out _ H1.out|with_reducible exact CE.out _ (H1.out.alloc _)|with_reducible exact CE.out _ H2.out|with_reducible exact CE.out _ (H2.out.alloc _)|with_reducible exact CE.out _ (H2.out.far4 hgn _ _ _ _))
   (first|(go_at_call 157;refine(KB.out _).mono ?_;rintro e w2 ⟨rfl,hb1⟩;(first|(have H1:=Qd (H0.out.kept (Uv hb1)))|(have HN:Hid (Box w2 W0.heap.size 38 #[.int .i64 0,.int .i64 0,.int .i64 0,.int .i64 0]):=Qd ((Box.new W0.drew 38 #[.int .i64 0,.int .i64 0,.int .i64 0,.int .i64 0]).kept hb1);have hgn:=H0.out.lt;have H1:=Qd (H0.out.kept (Uv (Zw hb1)))));clear hb1)|(go_at_call 156;refine(KM.out _).mono ?_;rintro e w3 ⟨rfl,hb2⟩;(first|(have HN2:=Qd (HN.out.kept hb2);obtain⟨n1,n2,n3,n4,n5,n6,n7,n8⟩:=Ucq HN2.out;have H2:=Qd (H1.out.kept hb2))|(have H2:=Qd (H1.out.kept hb2))|(have HN2:Hid (Box w3 w2.heap.size 38 #[.int .i64 0,.int .i64 0,.int .i64 0,.int .i64 0]):=Qd ((Box.new w2 38 #[.int .i64 0,.int .i64 0,.int .i64 0,.int .i64 0]).kept hb2);obtain⟨n1,n2,n3,n4,n5,n6,n7,n8⟩:=Ucq HN2.out;have hgn:=H1.out.lt;have H2:=Qd (H1.out.kept (Zw hb2))));clear hb2))
  all_goals
   rename_i hz;clear hz;go_wp2_with fail;go_meet
   case rel=>first
    | (have hx:=Qd (Ujw.fin2 H2.out hgn HN2.out (.int .i64 r0) (.int .i64 r1) (.int .i64 r2) (.int .i64 r3));clear hgn HN2 H2 H1 H0;with_reducible exact⟨_,rfl,rfl,hx⟩)
    | (have hx:=Qd (Ujw.fin1 H2.out #[.int .i64 r0,.int .i64 r1,.int .i64 r2,.int .i64 r3]);clear H2 H1 H0;with_reducible exact⟨_,rfl,rfl,hx⟩)
 case rest =>
  obtain⟨g,rfl,rfl,HS⟩:=hcut;obtain⟨n1,n2,n3,n4,n5,n6,n7,n8⟩:=Ucq HS.out.2.1;obtain⟨d1,d2,d3,d4,d5,d6⟩:=Ubz HS.out.1;clear H0 CE KB KM;have AT:∀w',(Instr.arrayAt 24 (.slice (some ⟨g,1,none⟩) 3 3)).run prog w' = .ok (.pointer (some ⟨g,1,none⟩)) w':=fun _=>by kernel_rfl
  cases mb
  all_goals
   go_wp2_with fail;exact Xk (Ud results129 _ _ (w.heap.size+1+1) 24 _ (0,0) _ rfl (set3 HS.out.1 _ _ _) underlying24 rfl Za) rfl ⟨by simp,Yd HS.out.2.2.2 (show _≤w.heap.size+1+1 by omega) _ _ _⟩
open Tryz
open Go.RowKit
def Pos.cells (p:Pos):Array Value:=#[.int .i64 p.q.w,.int .i64 p.q.x,.int .i64 p.q.y,.int .i64 p.q.z,.int .i64 p.w.x,.int .i64 p.w.y,.int .i64 p.w.z,.bool p.bad]
def pv (p:Pos):Value := .agg p.cells
theorem Ua6:(prog.info? 47).map (·.size)=some 8:=by kernel_rfl
theorem Um7 (p:Pos)(w:World):Calls prog 24 #[pv p] w (Ub (.bool (decide (Uce p))) w):=by
 have KN:=Qd (fun w=>Um4 p.q w)
 have KV:Hid (∀W,Below (w.heap.size+1) (w.alloc (.cells p.cells 47)) W→Calls prog 45 #[.slice (some ⟨w.heap.size,4,none⟩) 3 3] W (Ub (.bool (!Ua3 p.w.list)) W)):=Qd (fun W hb=>by
  have hB:Box W w.heap.size 47 p.cells:=(Box.new w _ _).below hb (by omega);refine Ub6 (g:=w.heap.size) (o:=4) (c:=3) (n:=3) p.w.list W rfl (by omega) hB.lt ?_;intro i hi;have hi:i<3:=hi;rcases (show i=0∨i=1∨i=2 by omega) with rfl|rfl|rfl
  ·exact hB.cell 4
  ·exact hB.cell 5
  ·exact hB.cell 6)
 have F:Hid (∀b n c,(Zv p.q)=(n,b)→Ua3 p.w.list=c→decide (Uce p)=(!b&&(decide (4294967040≤n)&&(decide (n≤4294967552) && !c)))):=Qd (fun b n c h1 h2=>by
  have e:Uce p↔(b=false∧4294967040≤n∧n≤4294967552∧c=false):=by unfold Uce;rw[h1,h2]
  have e2:decide (Uce p)=decide (b=false∧4294967040≤n∧n≤4294967552∧c=false):=decide_eq_decide.2 e;rw[e2]
  cases b<;>cases c<;>simp)
 generalize hq:Zv p.q=r at *;generalize hc:Ua3 p.w.list=c at *;obtain⟨n,b⟩:=r;have F2:=Qd (F.out b n c rfl rfl);rw[F2.out];clear F F2 hq hc;obtain⟨⟨q0,q1,q2,q3⟩,⟨w0,w1,w2⟩,bd⟩:=p;dsimp only[pv,Pos.cells,v4] at KN KV ⊢;have HB0:Hid (Below w.heap.size w (w.alloc (.cells #[.int .i64 q0,.int .i64 q1,.int .i64 q2,.int .i64 q3,.int .i64 w0,.int .i64 w1,.int .i64 w2,.bool bd] 47))):=Qd ((Xb _ w).alloc (Xa _) _);cases b
 ·by_cases h1:4294967040≤n
  ·by_cases h2:n≤4294967552
   all_goals
    have e1:decide (4294967040≤n)=true:=Xi h1
   rotate_right
   focus
    have e2:decide (n≤4294967552)=false:=Xh h2
   rotate_right
   focus
    have e2:decide (n≤4294967552)=true:=Xi h2
   all_goals
    go_enter func24,ntmps24;go_wp2_with fail;refine(KN.out _).mono ?_;rintro e w3 ⟨rfl,hb⟩;have HB:=Qd (Zw hb)
   ·have HB2:=Qd (hb.mono (show w.heap.size+1≤_ by simp));clear hb;go_wp2_with fail;refine(KV.out _ HB2.out).mono ?_;rintro e w4 ⟨rfl,hb⟩;have HB3:=Qd (Ua HB.out hb HB.out.size);clear hb;go_wp2_with fail;go_ret;exact⟨by simp[h1,h2],HB3.out⟩
   ·clear hb;go_wp2_with fail;go_ret;exact⟨by simp;intros;omega,HB.out⟩
  ·have e1:decide (4294967040≤n)=false:=Xh h1;go_enter func24,ntmps24;go_wp2_with fail;refine(KN.out _).mono ?_;rintro e w3 ⟨rfl,hb⟩;have HB:=Qd (Zw hb);clear hb;go_wp2_with fail;go_ret;exact⟨by simp;intros;omega,HB.out⟩
 ·go_enter func24,ntmps24;go_wp2_with fail;refine(KN.out _).mono ?_;rintro e w3 ⟨rfl,hb⟩;have HB:=Qd (Zw hb);clear hb;go_wp2_with fail;go_ret;exact⟨by simp,HB.out⟩
theorem Ulc (w:World):Calls prog 47 #[] w (Ub (pv Uew) w):=by
 have KO:=Qd (fun w=>Uk9 w);dsimp only[v4,U4b,pv,Pos.cells,Uew] at KO ⊢;go_enter func47,ntmps47;go_wp2_with fail;refine(KO.out _).mono ?_;rintro e w3 ⟨rfl,hb⟩;have HB:=Qd (Zw hb);have BX:=Qd ((Box.new w 47 #[.int .i64 0,.int .i64 0,.int .i64 0,.int .i64 0,.int .i64 0,.int .i64 0,.int .i64 0,.bool false]).kept hb);clear hb;go_wp2_with (with_reducible first|refine Qh 47 ?_);refine Uf.go w.heap.size rfl rfl BX.out (by kernel_rfl) rfl (by simp[Value.oneCell']) ?_;go_wp2_with fail;exact Xk (results_cell_row results47 _ _ w.heap.size 47 _ (0,0) _ rfl (BX.out.row _) underlying47 rfl Ua6) rfl ⟨rfl,Uc HB.out (Xa _) _⟩
theorem Uld (p:Pos)(w:World):Calls prog 199 #[pv p] w (Ub (pv (Yb p)) w):=by
 have KS:=Qd (fun w=>Um7 p w);have KO:=Qd (fun w=>Ulc w);have D0:=Qd (Duo.new w 47 p.cells 47 #[.int .i64 0,.int .i64 0,.int .i64 0,.int .i64 0,.int .i64 0,.int .i64 0,.int .i64 0,.bool false]);have F:Hid (Yb p=if Uce p then p else { Uew with bad:=true }):=Qd rfl;rw[F.out];by_cases h:Uce p;rotate_right
 focus
  rw[if_neg h];rw[Xh h] at KS;clear F h;obtain⟨⟨q0,q1,q2,q3⟩,⟨w0,w1,w2⟩,bd⟩:=p;dsimp only[pv,Pos.cells,Uew,U4b] at KS D0 KO ⊢
 rotate_right
 focus
  rw[if_pos h];rw[Xi h] at KS;clear F h KO;obtain⟨⟨q0,q1,q2,q3⟩,⟨w0,w1,w2⟩,bd⟩:=p;dsimp only[pv,Pos.cells] at KS D0 ⊢
 all_goals
  go_enter func199,ntmps199;go_wp2_with fail;refine(KS.out _).mono ?_;rintro e w3 ⟨rfl,hb⟩;have D1:=Qd (D0.out.kept hb);clear hb D0
 ·go_wp2_with (with_reducible first|refine Qg 47 ?_|refine Qh 47 ?_);refine Uo.go w.heap.size rfl D1.out.1 underlying47 rfl (by kernel_rfl) ?_;go_wp2_with (with_reducible first|refine Qg 47 ?_|refine Qh 47 ?_);refine Uf.go (w.heap.size+1) rfl rfl D1.out.2.1 (by kernel_rfl) rfl (by simp[Value.oneCell']) ?_;go_wp2_with fail;exact Xk (results_cell_row results199 _ _ (w.heap.size+1) 47 _ (0,0) _ rfl (D1.out.2.1.row _) underlying47 rfl Ua6) rfl ⟨rfl,Uc D1.out.2.2 (by omega) _⟩
 ·go_wp2_with fail;refine(KO.out _).mono ?_;rintro e w4 ⟨rfl,hb⟩;have D2:=Qd (D1.out.kept hb);clear hb D1;go_wp2_with (with_reducible first|refine Qg 47 ?_|refine Qh 47 ?_);refine Uf.go w.heap.size rfl rfl D2.out.1 (by kernel_rfl) rfl (by simp[Value.oneCell']) ?_;refine Udg fun W0 hW0=>?_
  have D3:Hid (Duo w 47 #[.int .i64 4294967296,.int .i64 0,.int .i64 0,.int .i64 0,.int .i64 0,.int .i64 0,.int .i64 0,.bool false] 47 #[.int .i64 0,.int .i64 0,.int .i64 0,.int .i64 0,.int .i64 0,.int .i64 0,.int .i64 0,.bool false] W0):=Qd (by
   rw[hW0];exact⟨D2.out.1.row _,D2.out.2.1.row_far (by omega) _,Uc D2.out.2.2 (Xa _) _⟩)
  clear hW0 D2;simp only[Act.put];have x7:=D3.out.1.cell 7;have y7:=D3.out.1.frozen 7;go_wp2_with (with_reducible first|refine Qg 47 ?_|refine Qh 47 ?_);refine Uo.go w.heap.size rfl (D3.out.1.set_ 7 (.bool true)) underlying47 rfl (by kernel_rfl) ?_;go_wp2_with (with_reducible first|refine Qg 47 ?_|refine Qh 47 ?_);refine Uf.go (w.heap.size+1) rfl rfl (D3.out.2.1.far (by simp) _) (by kernel_rfl) rfl (by simp[Value.oneCell']) ?_;go_wp2_with fail;exact Xk (results_cell_row results199 _ _ (w.heap.size+1) 47 _ (0,0) _ rfl ((D3.out.2.1.far (by simp) _).row _) underlying47 rfl Ua6) rfl ⟨rfl,Uc (D3.out.2.2.setCell (p:=⟨w.heap.size,7,none⟩) (Xa _) _) (by omega) _⟩
end Go.Proofs.YtdaflmjfeoacaaaGreat
