/- Part of the proof of TopTry, TopSplit: TuC, TuD, TuE, TuF. Conditions: none. -/
import Derived.Test.YtdaflmjfeoacaaaGreatZbar
import Derived.Deep.RegionWith
set_option linter.all false
set_option maxHeartbeats 16000000
set_option maxRecDepth 4000
namespace Go.Proofs.YtdaflmjfeoacaaaGreat
open Tryz
open Go.RowKit
structure ByR (w:World) (b va:Nat) (p:Pos) (g:Nat) (cs:Array Value) (W:World):Prop where
 wk:Wk b va p W
 box:Box W g 38 cs
 ne:g≠b
 grown:w.grownBy W (some b)
theorem ByR.kept {w:World}{b va:Nat}{p:Pos}{g:Nat}{cs:Array Value}{W W':World}(H:ByR w b va p g cs W)(hb:Below W.heap.size W W'):ByR w b va p g cs W' :=
 ⟨H.wk.kept hb,H.box.kept hb,H.ne,Un H.grown (Yg hb)⟩
theorem ByR.turned {w:World}{b va:Nat}{p p':Pos}{g:Nat}{cs:Array Value}{W W':World}(H:ByR w b va p g cs W)(hk:Wk b va p' W')(hg:W.grownBy W' (some b)):ByR w b va p' g cs W' :=
 ⟨hk,H.box.grown hg H.ne,H.ne,Un H.grown hg⟩
theorem Wk.setQ {b v:Nat}{q q':V4}{u:V3}{x:Bool}{w:World}(H:Wk b v ⟨q,u,x⟩ w):Wk b v ⟨q',u,x⟩ ((((w.setCell ⟨b,0,none⟩ (.int .i64 q'.w)).setCell ⟨b,1,none⟩ (.int .i64 q'.x)).setCell ⟨b,2,none⟩ (.int .i64 q'.y)).setCell ⟨b,3,none⟩ (.int .i64 q'.z)) ∧
  w.grownBy ((((w.setCell ⟨b,0,none⟩ (.int .i64 q'.w)).setCell ⟨b,1,none⟩ (.int .i64 q'.x)).setCell ⟨b,2,none⟩ (.int .i64 q'.y)).setCell ⟨b,3,none⟩ (.int .i64 q'.z)) (some b):=by
 have hne:v≠b:=fun e=>H.ne e.symm
 refine⟨⟨?_,(((H.var.far (show v≠b from hne) _).far (show v≠b from hne) _).far (show v≠b from hne) _).far (show v≠b from hne) _,H.ne⟩,Un (Un (Un (Uh _ _ _ _) (Uh _ _ _ _)) (Uh _ _ _ _)) (Uh _ _ _ _)⟩;exact(((H.at_.set_ 0 (.int .i64 q'.w)).set_ 1 (.int .i64 q'.x)).set_ 2 (.int .i64 q'.y)).set_ 3 (.int .i64 q'.z)
theorem Uzr {b va:Nat}{p:Pos}{w:World}(v:V3)(H:Wk b va p w):Calls prog 188 #[.pointer (some ⟨b,0,none⟩),v3 v] w (Uuf (.tuple #[]) b va (byP p v) w):=by
 have F:Hid (byP p v=⟨(Ufy (Uii p.q (Ucy v).1).1).1,p.w,((p.bad||(Ucy v).2)||(Uii p.q (Ucy v).1).2)||(Ufy (Uii p.q (Ucy v).1).1).2⟩):=Qd rfl;rw[F.out];have KS:=Qd (fun w=>Usq v w);have KM:=Qd (fun w=>Ulb p.q (Ucy v).1 w);have KU:=Qd (fun w=>Um5 (Uii p.q (Ucy v).1).1 w);have KQ:=Qd (fun(x0 x1 x2 x3:Int) (c:Bool) (p:Pos) (w:World) (H:Wk b va p w)=>Uv4 x0 x1 x2 x3 c H);generalize Ufy (Uii p.q (Ucy v).1).1=u at *;generalize Uii p.q (Ucy v).1=m at *;generalize Ucy v=s at *;clear F;obtain⟨⟨u0,u1,u2,u3⟩,ub⟩:=u;obtain⟨⟨m0,m1,m2,m3⟩,mb⟩:=m;obtain⟨⟨s0,s1,s2,s3⟩,sb⟩:=s;obtain⟨v0,v1,v2⟩:=v;obtain⟨⟨q0,q1,q2,q3⟩,pw,bd⟩:=p;dsimp only[v3,v4] at KS KM KU ⊢;have H0:=Qd (H.kept ((Xb _ w).alloc (Xa _) (.cells #[.int .i64 v0,.int .i64 v1,.int .i64 v2] 24)));have G0:Hid (w.grownBy (w.alloc (.cells #[.int .i64 v0,.int .i64 v1,.int .i64 v2] 24)) (some b)):=Qd (Yg ((Xb _ w).alloc (Xa _) _));clear H;go_enter func188,ntmps188;go_wp2_with fail;refine(KS.out _).mono ?_;rintro e w1 ⟨rfl,hb⟩;have H1:=Qd (H0.out.kept hb);have G1:=Qd (Un G0.out (Yg hb));clear hb H0 G0 KS;go_wp2_with fail;refine(KQ.out _ _ _ _ _ _ _ H1.out).mono ?_;rintro e w2 ⟨rfl,h2,hg2⟩;have R0:Hid (ByR w b va ⟨⟨q0,q1,q2,q3⟩,pw,bd||sb⟩ w2.heap.size #[.int .i64 s0,.int .i64 s1,.int .i64 s2,.int .i64 s3] (w2.alloc (.cells #[.int .i64 s0,.int .i64 s1,.int .i64 s2,.int .i64 s3] 38))):=Qd
  ⟨h2.kept ((Xb _ w2).alloc (Xa _) _),Box.new _ _ _,by have:=h2.at_.lt;omega,Un (Un G1.out hg2) (Yg ((Xb _ w2).alloc (Xa _) _))⟩
 clear h2 hg2 H1 G1;go_upto_region 2 with fail
 refine Uq fun W0 hW0=>?_
 rw[←hW0] at R0;clear hW0;generalize w2.heap.size=g at *;have e0:W0.cell? ⟨b,0,none⟩=some (.int .i64 q0):=R0.out.wk.at_.cell 0;have e1:W0.cell? ⟨b,1,none⟩=some (.int .i64 q1):=R0.out.wk.at_.cell 1;have e2:W0.cell? ⟨b,2,none⟩=some (.int .i64 q2):=R0.out.wk.at_.cell 2;have e3:W0.cell? ⟨b,3,none⟩=some (.int .i64 q3):=R0.out.wk.at_.cell 3;obtain⟨n0,n1,n2,n3,_,_,_,_⟩:=Ucq R0.out.box;go_region_with (first|(go_at_call 156;refine(KM.out _).mono ?_;rintro e w3 ⟨rfl,hb⟩;have R1:=Qd (R0.out.kept (Uv hb));clear hb)|(go_at_call 203;refine(KU.out _).mono ?_;rintro e w5 ⟨rfl,hb⟩;have R3:=Qd (R2.out.kept hb);clear hb)|(go_at_call 201;refine(KQ.out _ _ _ _ _ _ _ R3.out.wk).mono ?_;rintro e w6 ⟨rfl,h2,hg2⟩;have R4:=Qd (R3.out.turned h2 hg2);clear h2 hg2;have f0:=R4.out.wk.at_.frozen 0;have f1:=R4.out.wk.at_.frozen 1;have f2:=R4.out.wk.at_.frozen 2;have f3:=R4.out.wk.at_.frozen 3;have y0:w6.cell? ⟨b,0,none⟩=some (.int .i64 q0):=R4.out.wk.at_.cell 0;have y1:w6.cell? ⟨b,1,none⟩=some (.int .i64 q1):=R4.out.wk.at_.cell 1;have y2:w6.cell? ⟨b,2,none⟩=some (.int .i64 q2):=R4.out.wk.at_.cell 2;have y3:w6.cell? ⟨b,3,none⟩=some (.int .i64 q3):=R4.out.wk.at_.cell 3)|(go_at_call 201;refine(KQ.out _ _ _ _ _ _ _ R1.out.wk).mono ?_;rintro e w4 ⟨rfl,h2,hg2⟩;have R2:=Qd (R1.out.turned h2 hg2);clear h2 hg2))
 all_goals
  have HF:=Qd (R4.out.wk.setQ (q':=⟨u0,u1,u2,u3⟩));clear f0 f1 f2 f3 y0 y1 y2 y3 e0 e1 e2 e3 n0 n1 n2 n3;refine Xk (results_none rfl _ _ _) rfl ⟨rfl,?_⟩
  with_reducible exact⟨HF.out.1,Un R4.out.grown HF.out.2⟩
theorem U5o (p:Pos)(w:World):Calls prog 192 #[pv p] w (Ub (v3 (upP p)) w):=by
 have KK:=Qd (fun w=>Uld p w);have F:Hid (upP p=(Usb (Uf9 (Yb p).q) ⟨0,0,4294967296⟩).1):=Qd rfl;rw[F.out];have KB:=Qd (fun w=>Um6 (Yb p).q w);have KR:=Qd (fun w=>Uqd (Uf9 (Yb p).q) ⟨0,0,4294967296⟩ w);generalize Usb (Uf9 (Yb p).q) ⟨0,0,4294967296⟩=r at *;generalize hq:Uf9 (Yb p).q=c at *;generalize Yb p=p' at *;clear F hq;obtain⟨⟨q0,q1,q2,q3⟩,⟨w0,w1,w2⟩,bd⟩:=p';obtain⟨c0,c1,c2,c3⟩:=c;obtain⟨⟨r0,r1,r2⟩,rb⟩:=r;obtain⟨cs,hcs⟩:∃cs,p.cells=cs:=⟨_,rfl⟩;have e1:pv p = .agg cs:=by rw[←hcs];rfl
 have e2:cs.size=8:=by rw[←hcs];rfl
 rw[e1] at KK ⊢;clear e1 hcs;have HE:=Qd e2;clear e2;dsimp only[pv,Pos.cells,v3,v4] at KK KB KR ⊢;have FL:∀w',(Instr.field 47 (.agg #[.int .i64 q0,.int .i64 q1,.int .i64 q2,.int .i64 q3,.int .i64 w0,.int .i64 w1,.int .i64 w2,.bool bd]) 0).run prog w' = .ok (.agg #[.int .i64 q0,.int .i64 q1,.int .i64 q2,.int .i64 q3]) w':=fun _=>by kernel_rfl
 have D0:=Qd (Duo.new w 47 cs 24 #[.int .i64 0,.int .i64 0,.int .i64 0]);go_enter func192,ntmps192;go_wp2_with (with_reducible first|refine Qg 47 ?_);refine Uo.go w.heap.size rfl D0.out.1 underlying47 rfl (by rw[HE.out];kernel_rfl) ?_;go_wp2_with fail;refine(KK.out _).mono ?_;rintro e w3 ⟨rfl,hb⟩;have D1:=Qd (D0.out.kept hb);clear hb D0 KK;go_wp2_with fail;refine(KB.out _).mono ?_;rintro e w4 ⟨rfl,hb⟩;have D2:=Qd (D1.out.kept hb);clear hb D1 KB;go_wp2_with fail;refine(KR.out _).mono ?_;rintro e w5 ⟨rfl,hb⟩;have D3:=Qd ((D2.out.kept hb).alloc (.cells #[.int .i64 r0,.int .i64 r1,.int .i64 r2] 24));clear hb D2 KR;obtain⟨n0,n1,n2,n3,n4,n5⟩:=Ubz D3.out.2.1;go_wp2_with fail;exact Xk (results_cell_row results192 _ _ (w.heap.size+1) 24 _ (0,0) _ rfl (set3 D3.out.2.1 _ _ _) underlying24 rfl Za) rfl ⟨rfl,Yd D3.out.2.2 (show _≤w.heap.size+1 by omega) _ _ _⟩
structure MvR (w:World) (b va:Nat) (p:Pos) (v:Array Value) (W:World):Prop where
 wk:Wk b va p W
 vec:Box W (w.heap.size+1) 24 v
 res:Box W (w.heap.size+1+1) 47 #[.int .i64 0,.int .i64 0,.int .i64 0,.int .i64 0,.int .i64 0,.int .i64 0,.int .i64 0,.bool false]
 lb:w.heap.size+1+1<b
 lv:w.heap.size+1+1<va
 below:Below w.heap.size w W
section
variable {w W W':World} {b va:Nat} {p p':Pos} {v:Array Value}
theorem MvR.kept (H:MvR w b va p v W)(hb:Below W.heap.size W W'):MvR w b va p v W':=⟨H.wk.kept hb,H.vec.kept hb,H.res.kept hb,H.lb,H.lv,Ua H.below hb H.below.size⟩
theorem MvR.turned (H:MvR w b va p v W)(hk:Wk b va p' W')(hg:W.grownBy W' (some b)):MvR w b va p' v W' :=
 ⟨hk,H.vec.grown hg (by have:=H.lb;omega),H.res.grown hg (by have:=H.lb;omega),H.lb,H.lv,Ucn H.below hg H.below.size (by have:=H.lb;omega)⟩
theorem MvR.start {p0:Array Value}(hb:((w.alloc (.cells p0 47)).alloc (.cells v 24)).alloc (.cells #[.int .i64 0,.int .i64 0,.int .i64 0,.int .i64 0,.int .i64 0,.int .i64 0,.int .i64 0,.bool false] 47)=W)(hB:Below W.heap.size W W')(l1:W.heap.size≤b)(l2:W.heap.size≤va)(hk:Wk b va p W'):MvR w b va p v W':=by
 have T:=Tri.new w 47 p0 24 v 47 #[.int .i64 0,.int .i64 0,.int .i64 0,.int .i64 0,.int .i64 0,.int .i64 0,.int .i64 0,.bool false];rw[hb] at T;have hl:=T.2.2.1.lt;exact⟨hk,T.2.1.kept hB,T.2.2.1.kept hB,by omega,by omega,Ua T.2.2.2 hB T.2.2.2.size⟩
theorem MvR.cells {p:Pos}(H:MvR w b va p v W):(W.cell? ⟨b,0,none⟩=some (.int .i64 p.q.w)∧W.cell? ⟨b,1,none⟩=some (.int .i64 p.q.x)∧W.cell? ⟨b,2,none⟩=some (.int .i64 p.q.y)∧W.cell? ⟨b,3,none⟩=some (.int .i64 p.q.z)) ∧
  (W.cell? ⟨b,4,none⟩=some (.int .i64 p.w.x)∧W.cell? ⟨b,5,none⟩=some (.int .i64 p.w.y)∧W.cell? ⟨b,6,none⟩=some (.int .i64 p.w.z))∧W.cell? ⟨b,7,none⟩=some (.bool p.bad)∧W.cell? ⟨b,8,none⟩=some (.func (.func 200) #[] #[.pointer (some ⟨va,0,none⟩)]) :=
 ⟨⟨H.wk.at_.cell 0,H.wk.at_.cell 1,H.wk.at_.cell 2,H.wk.at_.cell 3⟩,⟨H.wk.at_.cell 4,H.wk.at_.cell 5,H.wk.at_.cell 6⟩,H.wk.at_.cell 7,H.wk.at_.cell 8⟩
end
theorem Uzs (p0:Pos)(v:V3)(dt:Int)(w:World):Calls prog 164 #[pv p0,v3 v,.int .i64 dt] w (Ub (pv (Up6 p0 v dt)) w):=by
 have KB:=Qd (fun w=>Ufo p0 w)
 have F:Hid (Up6 p0 v dt=if Ua3 v.list=true∨dt<0∨68719476736<dt then { Yb p0 with bad:=true } else
  byP { Yb p0 with bad:=((Yb p0).bad||(Uev v (Yb p0).w).2)||(Zb (Uev v (Yb p0).w).1 dt).2 } (Zb (Uev v (Yb p0).w).1 dt).1):=Qd rfl
 have KV:Hid (∀W g,Box W g 24 v.cells→Calls prog 45 #[.slice (some ⟨g,0,none⟩) 3 3] W (Ub (.bool (!Ua3 v.list)) W)):=Qd (fun W g H=>Ub6 v.list W rfl (by omega) H.lt (Usi H));rw[F.out];clear F;generalize hkp:Yb p0=p at *;have KT:=Qd (fun(b va:Nat) (p:Pos) (w:World) (H:Wk b va p w)=>Uho (b:=b) (v:=va) true H);have KS:=Qd (fun w=>Uhj v p.w w);have KC:=Qd (fun w=>Udz (Uev v p.w).1 dt w);have KW:=Qd (fun(b va:Nat) (x0 x1 x2:Int) (c:Bool) (p:Pos) (w:World) (H:Wk b va p w)=>Uqe x0 x1 x2 c H);generalize Zb (Uev v p.w).1 dt=s at *;generalize Uev v p.w=d at *;have KY:=Qd (fun(b va:Nat) (p:Pos) (w:World) (H:Wk b va p w)=>Uzr s.1 H);generalize hcv:Ua3 v.list=cv at *;clear hkp hcv;obtain⟨⟨q0,q1,q2,q3⟩,⟨w0,w1,w2⟩,bd⟩:=p;obtain⟨v0,v1,v2⟩:=v;obtain⟨⟨d0,d1,d2⟩,db⟩:=d;obtain⟨⟨s0,s1,s2⟩,sb⟩:=s;obtain⟨cs,hcs⟩:∃cs,p0.cells=cs:=⟨_,rfl⟩;have e1:pv p0 = .agg cs:=by rw[←hcs];rfl
 have e2:cs.size=8:=by rw[←hcs];rfl
 rw[e1] at KB ⊢;clear e1 hcs;have HE:=Qd e2;clear e2;dsimp only[v3,V3.cells] at KV KS KC KY ⊢;by_cases hg:cv=true∨dt<0∨68719476736<dt
 ·rw[if_pos hg];clear KS KC KW KY;rcases (show cv=true∨(cv=false∧dt<0)∨(cv=false∧¬dt<0∧68719476736<dt) by cases cv<;>simp at hg ⊢;omega) with rfl|⟨rfl,hn⟩|⟨rfl,hn,hm⟩
  rotate_right
  focus
   clear hg;have g1:decide (dt<0)=false:=Xh hn;have g2:decide (68719476736<dt)=true:=Xi hm
  rotate_right
  focus
   clear hg;have g1:decide (dt<0)=true:=Xi hn
  rotate_right
  focus
   clear hg
  all_goals
   go_enter func164,ntmps164;go_wp2_with (with_reducible first|refine Qg 47 ?_);refine Uo.go w.heap.size rfl (((Box.new w _ _).alloc _).alloc _) underlying47 rfl (by rw[HE.out];kernel_rfl) ?_;go_wp2_with fail;refine Y7 fun W hW=>?_
   refine(KB.out _).mono ?_;rintro e w4 ⟨b,va,rfl,l1,l2,hk,hb⟩;have H0:=Qd (MvR.start (p0:=cs) (v:=#[.int .i64 v0,.int .i64 v1,.int .i64 v2]) hW.symm hb l1 l2 hk);clear hW hb l1 l2 hk KB;go_wp2_with fail;refine(KV.out _ _ H0.out.vec).mono ?_;rintro e w5 ⟨rfl,hb⟩;have H1:=Qd (H0.out.kept hb);clear hb H0 KV;obtain⟨_,_,_,c8⟩:=H1.out.cells;go_wp2_with fail;refine(KT.out _ _ _ _ H1.out.wk).mono ?_;rintro e w6 ⟨rfl,h2,hg2⟩;have H2:=Qd (H1.out.turned h2 hg2);clear h2 hg2 H1 KT c8;obtain⟨⟨x0,x1,x2,x3⟩,⟨x4,x5,x6⟩,x7,_⟩:=H2.out.cells;dsimp only at x0 x1 x2 x3 x4 x5 x6 x7;simp only[Bool.or_true] at x7;go_wp2_with (with_reducible first|refine Qh 47 ?_);refine Uf.go (w.heap.size+1+1) rfl rfl H2.out.res (by kernel_rfl) rfl (by simp[Value.oneCell']) ?_;go_wp2_with fail;exact Xk (results_cell_row results164 _ _ (w.heap.size+1+1) 47 _ (0,0) _ rfl (H2.out.res.row _) underlying47 rfl Ua6) rfl ⟨by simp[pv,Pos.cells],Uc H2.out.below (by omega) _⟩
 ·rw[if_neg hg];have g0:cv=false:=by cases cv<;>simp at hg ⊢
  have g1:decide (dt<0)=false:=by simp at hg ⊢;omega
  have g2:decide (68719476736<dt)=false:=by simp at hg ⊢;omega
  subst g0;clear hg KT;go_enter func164,ntmps164;go_wp2_with (with_reducible first|refine Qg 47 ?_);refine Uo.go w.heap.size rfl (((Box.new w _ _).alloc _).alloc _) underlying47 rfl (by rw[HE.out];kernel_rfl) ?_;go_wp2_with fail;refine Y7 fun W hW=>?_
  refine(KB.out _).mono ?_;rintro e w4 ⟨b,va,rfl,l1,l2,hk,hb⟩;have H0:=Qd (MvR.start (p0:=cs) (v:=#[.int .i64 v0,.int .i64 v1,.int .i64 v2]) hW.symm hb l1 l2 hk);clear hW hb l1 l2 hk KB;go_wp2_with fail;refine(KV.out _ _ H0.out.vec).mono ?_;rintro e w5 ⟨rfl,hb⟩;have H1:=Qd (H0.out.kept hb);clear hb H0 KV;obtain⟨_,⟨x4,x5,x6⟩,_,_⟩:=H1.out.cells;obtain⟨n0,n1,n2,_,_,_⟩:=Ubz H1.out.vec;dsimp only at x4 x5 x6;go_upto_region 5 with fail
  go_region_with (first|(go_at_call 130;refine(KS.out _).mono ?_;rintro e w6 ⟨rfl,hb⟩;have H2:=Qd (H1.out.kept (Uv hb));clear hb)|(go_at_call 153;refine(KC.out _).mono ?_;rintro e w8 ⟨rfl,hb⟩;have H4:=Qd (H3.out.kept hb);clear hb)|(go_at_call 188;refine(KY.out _ _ _ _ H5.out.wk).mono ?_;rintro e w10 ⟨rfl,h2,hg2⟩;have H6:=Qd (H5.out.turned h2 hg2);clear h2 hg2)|(go_at_call 189;refine(KW.out _ _ _ _ _ _ _ _ H4.out.wk).mono ?_;rintro e w9 ⟨rfl,h2,hg2⟩;have H5:=Qd (H4.out.turned h2 hg2);clear h2 hg2)|(go_at_call 189;refine(KW.out _ _ _ _ _ _ _ _ H2.out.wk).mono ?_;rintro e w7 ⟨rfl,h2,hg2⟩;have H3:=Qd (H2.out.turned h2 hg2);clear h2 hg2))
  all_goals
   have H7:=H6.out;generalize hP:byP _ _=P at H7;have HP:=Qd hP;clear hP;obtain⟨⟨r0,r1,r2,r3⟩,⟨t0,t1,t2⟩,tb⟩:=P;have H2:=Qd H7;clear H7 H6 H5 H4 H3 x4 x5 x6 n0 n1 n2;obtain⟨⟨x0,x1,x2,x3⟩,⟨x4,x5,x6⟩,x7,_⟩:=H2.out.cells;dsimp only at x0 x1 x2 x3 x4 x5 x6 x7;go_wp2_with (with_reducible first|refine Qh 47 ?_);refine Uf.go (w.heap.size+1+1) rfl rfl H2.out.res (by kernel_rfl) rfl (by simp[Value.oneCell']) ?_;go_wp2_with fail;exact Xk (results_cell_row results164 _ _ (w.heap.size+1+1) 47 _ (0,0) _ rfl (H2.out.res.row _) underlying47 rfl Ua6) rfl ⟨by rw[HP.out];rfl,Uc H2.out.below (by omega) _⟩
open Tryz
open Go.RowKit
theorem Uzt (p0:Pos)(v:V3)(dt:Int)(w:World)(hg:Ua3 v.list=true∨dt<0∨4294967296<dt):Calls prog 165 #[pv p0,v3 v,.int .i64 dt] w (Ub (pv ({ Yb p0 with bad:=true })) w):=by
 have KB:=Qd (fun w=>Ufo p0 w);have KV:Hid (∀W g,Box W g 24 v.cells→Calls prog 45 #[.slice (some ⟨g,0,none⟩) 3 3] W (Ub (.bool (!Ua3 v.list)) W)):=Qd (fun W g H=>Ub6 v.list W rfl (by omega) H.lt (Usi H));generalize hkp:Yb p0=p at *;have KT:=Qd (fun(b va:Nat) (p:Pos) (w:World) (H:Wk b va p w)=>Uho (b:=b) (v:=va) true H);generalize hcv:Ua3 v.list=cv at *;clear hkp hcv;obtain⟨⟨q0,q1,q2,q3⟩,⟨w0,w1,w2⟩,bd⟩:=p;obtain⟨v0,v1,v2⟩:=v;obtain⟨cs,hcs⟩:∃cs,p0.cells=cs:=⟨_,rfl⟩;have e1:pv p0 = .agg cs:=by rw[←hcs];rfl
 have e2:cs.size=8:=by rw[←hcs];rfl
 rw[e1] at KB ⊢;clear e1 hcs;have HE:=Qd e2;clear e2;dsimp only[v3,V3.cells] at KV ⊢;rcases (show cv=true∨(cv=false∧dt<0)∨(cv=false∧¬dt<0∧4294967296<dt) by cases cv<;>simp at hg ⊢;omega) with rfl|⟨rfl,hn⟩|⟨rfl,hn,hm⟩
 rotate_right
 focus
  clear hg;have g1:decide (dt<0)=false:=Xh hn;have g2:decide (4294967296<dt)=true:=Xi hm
 rotate_right
 focus
  clear hg;have g1:decide (dt<0)=true:=Xi hn
 rotate_right
 focus
  clear hg
 all_goals
  go_enter func165,ntmps165;go_wp2_with (with_reducible first|refine Qg 47 ?_);refine Uo.go w.heap.size rfl (((Box.new w _ _).alloc _).alloc _) underlying47 rfl (by rw[HE.out];kernel_rfl) ?_;go_wp2_with fail;refine Y7 fun W hW=>?_
  refine(KB.out _).mono ?_;rintro e w4 ⟨b,va,rfl,l1,l2,hk,hb⟩;have H0:=Qd (MvR.start (p0:=cs) (v:=#[.int .i64 v0,.int .i64 v1,.int .i64 v2]) hW.symm hb l1 l2 hk);clear hW hb l1 l2 hk KB;go_wp2_with fail;refine(KV.out _ _ H0.out.vec).mono ?_;rintro e w5 ⟨rfl,hb⟩;have H1:=Qd (H0.out.kept hb);clear hb H0 KV;obtain⟨_,_,_,c8⟩:=H1.out.cells;go_wp2_with fail;refine(KT.out _ _ _ _ H1.out.wk).mono ?_;rintro e w6 ⟨rfl,h2,hg2⟩;have H2:=Qd (H1.out.turned h2 hg2);clear h2 hg2 H1 KT c8;obtain⟨⟨x0,x1,x2,x3⟩,⟨x4,x5,x6⟩,x7,_⟩:=H2.out.cells;dsimp only at x0 x1 x2 x3 x4 x5 x6 x7;simp only[Bool.or_true] at x7;go_wp2_with (with_reducible first|refine Qh 47 ?_);refine Uf.go (w.heap.size+1+1) rfl rfl H2.out.res (by kernel_rfl) rfl (by simp[Value.oneCell']) ?_;go_wp2_with fail;exact Xk (results_cell_row results165 _ _ (w.heap.size+1+1) 47 _ (0,0) _ rfl (H2.out.res.row _) underlying47 rfl Ua6) rfl ⟨by simp[pv,Pos.cells],Uc H2.out.below (by omega) _⟩
theorem Uwa (p0:Pos)(v:V3)(dt:Int)(w:World)(hg:¬(Ua3 v.list=true∨dt<0∨4294967296<dt))(hu:(Ub5 v).2=true):Calls prog 165 #[pv p0,v3 v,.int .i64 dt] w (Ub (pv (Yb p0)) w):=by
 have KB:=Qd (fun w=>Ufo p0 w);have KV:Hid (∀W g,Box W g 24 v.cells→Calls prog 45 #[.slice (some ⟨g,0,none⟩) 3 3] W (Ub (.bool (!Ua3 v.list)) W)):=Qd (fun W g H=>Ub6 v.list W rfl (by omega) H.lt (Usi H));have KU:=Qd (fun w=>Um3 v w);generalize hkp:Yb p0=p at *;generalize Ub5 v=u at *;obtain⟨⟨u0,u1,u2⟩,ub⟩:=u;obtain rfl:ub=true:=hu;generalize hcv:Ua3 v.list=cv at *;clear hkp hcv;obtain⟨⟨q0,q1,q2,q3⟩,⟨w0,w1,w2⟩,bd⟩:=p;obtain⟨v0,v1,v2⟩:=v;obtain⟨cs,hcs⟩:∃cs,p0.cells=cs:=⟨_,rfl⟩;have e1:pv p0 = .agg cs:=by rw[←hcs];rfl
 have e2:cs.size=8:=by rw[←hcs];rfl
 rw[e1] at KB ⊢;clear e1 hcs;have HE:=Qd e2;clear e2;dsimp only[v3,V3.cells] at KV KU ⊢;have g0:cv=false:=by cases cv<;>simp at hg ⊢
 have g1:decide (dt<0)=false:=by simp at hg ⊢;omega
 have g2:decide (4294967296<dt)=false:=by simp at hg ⊢;omega
 subst g0;clear hg;go_enter func165,ntmps165;go_wp2_with (with_reducible first|refine Qg 47 ?_);refine Uo.go w.heap.size rfl (((Box.new w _ _).alloc _).alloc _) underlying47 rfl (by rw[HE.out];kernel_rfl) ?_;go_wp2_with fail;refine Y7 fun W hW=>?_
 refine(KB.out _).mono ?_;rintro e w4 ⟨b,va,rfl,l1,l2,hk,hb⟩;have H0:=Qd (MvR.start (p0:=cs) (v:=#[.int .i64 v0,.int .i64 v1,.int .i64 v2]) hW.symm hb l1 l2 hk);clear hW hb l1 l2 hk KB;go_wp2_with fail;refine(KV.out _ _ H0.out.vec).mono ?_;rintro e w5 ⟨rfl,hb⟩;have H1:=Qd (H0.out.kept hb);clear hb H0 KV;obtain⟨n0,n1,n2,_,_,_⟩:=Ubz H1.out.vec;go_wp2_with fail;refine(KU.out _).mono ?_;rintro e w6 ⟨rfl,hb⟩;have H2:Hid (MvR w b va ⟨⟨q0,q1,q2,q3⟩,⟨w0,w1,w2⟩,bd⟩ #[.int .i64 v0,.int .i64 v1,.int .i64 v2] (w6.alloc (.cells #[.int .i64 u0,.int .i64 u1,.int .i64 u2] 24))):=Qd ((H1.out.kept hb).kept ((Xb _ w6).alloc (Xa _) _));clear hb H1 KU n0 n1 n2;obtain⟨⟨x0,x1,x2,x3⟩,⟨x4,x5,x6⟩,x7,_⟩:=H2.out.cells;dsimp only at x0 x1 x2 x3 x4 x5 x6 x7;go_wp2_with (with_reducible first|refine Qh 47 ?_);refine Uf.go (w.heap.size+1+1) rfl rfl H2.out.res (by kernel_rfl) rfl (by simp[Value.oneCell']) ?_;go_wp2_with fail;exact Xk (results_cell_row results165 _ _ (w.heap.size+1+1) 47 _ (0,0) _ rfl (H2.out.res.row _) underlying47 rfl Ua6) rfl ⟨rfl,Uc H2.out.below (by omega) _⟩
structure LvR (w:World) (b va:Nat) (p:Pos) (v:Array Value) (g8:Nat) (u:Array Value) (gn:Option Nat) (W:World):Prop where
 mv:MvR w b va p v W
 dir:Box W g8 24 u
 hg:w.heap.size+1+1<g8
 ne:g8≠b
 new:∀g,gn=some g→Box W g 24 #[.int .i64 0,.int .i64 0,.int .i64 0]∧g8<g∧g≠b∧g≠va
section
variable {w W W':World} {b va g8:Nat} {p p':Pos} {v u:Array Value} {gn:Option Nat}
theorem LvR.kept (H:LvR w b va p v g8 u gn W)(hb:Below W.heap.size W W'):LvR w b va p v g8 u gn W':=⟨H.mv.kept hb,H.dir.kept hb,H.hg,H.ne,fun g hg=>⟨(H.new g hg).1.kept hb,(H.new g hg).2⟩⟩
theorem LvR.turned (H:LvR w b va p v g8 u gn W)(hk:Wk b va p' W')(hg:W.grownBy W' (some b)):LvR w b va p' v g8 u gn W' :=
 ⟨H.mv.turned hk hg,H.dir.grown hg H.ne,H.hg,H.ne,fun g h=>⟨(H.new g h).1.grown hg (H.new g h).2.2.1,(H.new g h).2⟩⟩
theorem LvR.alloc (H:LvR w b va p v g8 u none W):LvR w b va p v g8 u (some W.heap.size) (W.alloc (.cells #[.int .i64 0,.int .i64 0,.int .i64 0] 24)) :=
 have hb:=(Xb W.heap.size W).alloc (Xa _) (.cells #[.int .i64 0,.int .i64 0,.int .i64 0] 24)
 ⟨H.mv.kept hb,H.dir.kept hb,H.hg,H.ne,fun g h=>by
  injection h with h;subst h
  have h1:=H.dir.lt;have h2:=H.mv.wk.at_.lt;have h3:=H.mv.wk.var.lt
  exact⟨Box.new _ _ _,h1,by omega,by omega⟩⟩
structure LvE (w:World) (b va:Nat) (p:Pos) (v:Array Value) (g:Nat) (cs:Array Value) (W:World):Prop where
 mv:MvR w b va p v W
 box:Box W g 24 cs
 hg:w.heap.size+1+1<g
 ne:g≠b
theorem LvE.kept {cs:Array Value}(H:LvE w b va p v g8 cs W)(hb:Below W.heap.size W W'):LvE w b va p v g8 cs W':=⟨H.mv.kept hb,H.box.kept hb,H.hg,H.ne⟩
theorem LvE.turned {cs:Array Value}(H:LvE w b va p v g8 cs W)(hk:Wk b va p' W')(hg:W.grownBy W' (some b)):LvE w b va p' v g8 cs W':=⟨H.mv.turned hk hg,H.box.grown hg H.ne,H.hg,H.ne⟩
theorem Wk.setW {v:Nat}{q:V4}{u u':V3}{x:Bool}{w:World}(H:Wk b v ⟨q,u,x⟩ w):Wk b v ⟨q,u',x⟩ (((w.setCell ⟨b,4,none⟩ (.int .i64 u'.x)).setCell ⟨b,5,none⟩ (.int .i64 u'.y)).setCell ⟨b,6,none⟩ (.int .i64 u'.z)) ∧
  w.grownBy (((w.setCell ⟨b,4,none⟩ (.int .i64 u'.x)).setCell ⟨b,5,none⟩ (.int .i64 u'.y)).setCell ⟨b,6,none⟩ (.int .i64 u'.z)) (some b):=by
 have hne:v≠b:=fun e=>H.ne e.symm
 refine⟨⟨?_,((H.var.far (show v≠b from hne) _).far (show v≠b from hne) _).far (show v≠b from hne) _,H.ne⟩,Un (Un (Uh _ _ _ _) (Uh _ _ _ _)) (Uh _ _ _ _)⟩;exact((H.at_.set_ 4 (.int .i64 u'.x)).set_ 5 (.int .i64 u'.y)).set_ 6 (.int .i64 u'.z)
theorem LvE.setW {q:V4}{t t':V3}{x:Bool}{cs:Array Value}(H:LvE w b va ⟨q,t,x⟩ v g8 cs W):LvE w b va ⟨q,t',x⟩ v g8 cs (((W.setCell ⟨b,4,none⟩ (.int .i64 t'.x)).setCell ⟨b,5,none⟩ (.int .i64 t'.y)).setCell ⟨b,6,none⟩ (.int .i64 t'.z)) :=
 H.turned (H.mv.wk.setW (u':=t')).1 (H.mv.wk.setW (u':=t')).2
theorem LvR.fin1 (H:LvR w b va p v g8 u gn W)(cs:Array Value):LvE w b va p v W.heap.size cs (W.alloc (.cells cs 24)) :=
 ⟨H.mv.kept ((Xb _ W).alloc (Xa _) _),Box.new _ _ _,by have:=H.dir.lt;have:=H.hg;omega,by have:=H.mv.wk.at_.lt;omega⟩
theorem LvR.fin2 {g:Nat}(H:LvR w b va p v g8 u (some g) W)(x y z:Value):LvE w b va p v g #[x,y,z] (((W.setCell ⟨g,0,none⟩ x).setCell ⟨g,1,none⟩ y).setCell ⟨g,2,none⟩ z):=by
 obtain⟨h1,h2,h3,h4⟩:=H.new g rfl;have h5:=H.hg;have h6:=H.mv.lb;have hz:W.grownBy (((W.setCell ⟨g,0,none⟩ x).setCell ⟨g,1,none⟩ y).setCell ⟨g,2,none⟩ z) (some g):=Un (Un (Uh _ _ _ _) (Uh _ _ _ _)) (Uh _ _ _ _);exact⟨⟨⟨H.mv.wk.at_.grown hz (by omega),H.mv.wk.var.grown hz (by omega),H.mv.wk.ne⟩,H.mv.vec.grown hz (by omega),H.mv.res.grown hz (by omega),H.mv.lb,H.mv.lv,Ucn H.mv.below hz H.mv.below.size (by omega)⟩,set3 h1 x y z,by omega,h3⟩
theorem LvR.dir2 {g:Nat}(H:LvR w b va p v g8 u (some g) W)(x y z:Value):Box (((W.setCell ⟨g,0,none⟩ x).setCell ⟨g,1,none⟩ y).setCell ⟨g,2,none⟩ z) g8 24 u :=
 have h:=(H.new g rfl).2.1
 ((H.dir.far (show g8≠g by omega) x).far (show g8≠g by omega) y).far (show g8≠g by omega) z
end
theorem Uwb (p0:Pos)(v:V3)(dt:Int)(w:World)(hg:¬(Ua3 v.list=true∨dt<0∨4294967296<dt))(hu:(Ub5 v).2=false):Calls prog 165 #[pv p0,v3 v,.int .i64 dt] w (Ub (pv (byP { Yb p0 with w:=(Uev (Yb p0).w (Zb (Zb (Ubd (Ub5 v).1 (upP (Yb p0))).1 dt).1 268435456).1).1,bad:=(((((Yb p0).bad||(Ubd (Ub5 v).1 (upP (Yb p0))).2)||(Zb (Ubd (Ub5 v).1 (upP (Yb p0))).1 dt).2)||(Zb (Zb (Ubd (Ub5 v).1 (upP (Yb p0))).1 dt).1 268435456).2)||(Uev (Yb p0).w (Zb (Zb (Ubd (Ub5 v).1 (upP (Yb p0))).1 dt).1 268435456).1).2) } (Zb (Ubd (Ub5 v).1 (upP (Yb p0))).1 dt).1)) w):=by
 have KB:=Qd (fun w=>Ufo p0 w);have KV:Hid (∀W g,Box W g 24 v.cells→Calls prog 45 #[.slice (some ⟨g,0,none⟩) 3 3] W (Ub (.bool (!Ua3 v.list)) W)):=Qd (fun W g H=>Ub6 v.list W rfl (by omega) H.lt (Usi H));have KU:=Qd (fun w=>Um3 v w);have KUp:=Qd (fun w=>U5o (Yb p0) w);have KX:=Qd (fun w=>Usm (Ub5 v).1 (upP (Yb p0)) w);have KC:=Qd (fun w=>Udz (Ubd (Ub5 v).1 (upP (Yb p0))).1 dt w);have KH:=Qd (fun w=>Udz (Zb (Ubd (Ub5 v).1 (upP (Yb p0))).1 dt).1 268435456 w);have KS:=Qd (fun w=>Uhj (Yb p0).w (Zb (Zb (Ubd (Ub5 v).1 (upP (Yb p0))).1 dt).1 268435456).1 w);have KW:=Qd (fun(b va:Nat) (x0 x1 x2:Int) (c:Bool) (p:Pos) (w:World) (H:Wk b va p w)=>Uqe x0 x1 x2 c H);have KY:=Qd (fun(b va:Nat) (p:Pos) (w:World) (H:Wk b va p w)=>Uzr (Zb (Ubd (Ub5 v).1 (upP (Yb p0))).1 dt).1 H);generalize Uev (Yb p0).w (Zb (Zb (Ubd (Ub5 v).1 (upP (Yb p0))).1 dt).1 268435456).1=s at *;generalize Zb (Zb (Ubd (Ub5 v).1 (upP (Yb p0))).1 dt).1 268435456=h at *;generalize Zb (Ubd (Ub5 v).1 (upP (Yb p0))).1 dt=g at *;generalize Ubd (Ub5 v).1 (upP (Yb p0))=x at *;generalize upP (Yb p0)=up at *;generalize hkp:Yb p0=p at *;generalize Ub5 v=u at *;obtain⟨⟨u0,u1,u2⟩,ub⟩:=u;obtain rfl:ub=false:=hu;obtain⟨⟨x0,x1,x2⟩,xb⟩:=x;obtain⟨⟨g0,g1,g2⟩,gb⟩:=g;obtain⟨⟨h0,h1,h2⟩,hb⟩:=h;obtain⟨⟨s0,s1,s2⟩,sb⟩:=s;obtain⟨up0,up1,up2⟩:=up;generalize hcv:Ua3 v.list=cv at *;clear hkp hcv;obtain⟨⟨q0,q1,q2,q3⟩,⟨w0,w1,w2⟩,bd⟩:=p;obtain⟨v0,v1,v2⟩:=v;obtain⟨cs,hcs⟩:∃cs,p0.cells=cs:=⟨_,rfl⟩;have e1:pv p0 = .agg cs:=by rw[←hcs];rfl
 have e2:cs.size=8:=by rw[←hcs];rfl
 rw[e1] at KB ⊢;clear e1 hcs;have HE:=Qd e2;clear e2;dsimp only[v3,V3.cells,pv,Pos.cells] at KV KU KUp KX KC KH KS KY ⊢;have z0:cv=false:=by cases cv<;>simp at hg ⊢
 have z1:decide (dt<0)=false:=by simp at hg ⊢;omega
 have z2:decide (4294967296<dt)=false:=by simp at hg ⊢;omega
 subst z0;clear hg;go_enter func165,ntmps165;go_wp2_with (with_reducible first|refine Qg 47 ?_);refine Uo.go w.heap.size rfl (((Box.new w _ _).alloc _).alloc _) underlying47 rfl (by rw[HE.out];kernel_rfl) ?_;go_wp2_with fail;refine Y7 fun W hW=>?_
 refine(KB.out _).mono ?_;rintro e w4 ⟨b,va,rfl,l1,l2,hk,hb⟩;have H0:=Qd (MvR.start (p0:=cs) (v:=#[.int .i64 v0,.int .i64 v1,.int .i64 v2]) hW.symm hb l1 l2 hk);clear hW hb l1 l2 hk KB;go_wp2_with fail;refine(KV.out _ _ H0.out.vec).mono ?_;rintro e w5 ⟨rfl,hb⟩;have H1:=Qd (H0.out.kept hb);clear hb H0 KV;obtain⟨n0,n1,n2,_,_,_⟩:=Ubz H1.out.vec;go_wp2_with fail;refine(KU.out _).mono ?_;rintro e w6 ⟨rfl,hb⟩;have R0:Hid (LvR w b va ⟨⟨q0,q1,q2,q3⟩,⟨w0,w1,w2⟩,bd⟩ #[.int .i64 v0,.int .i64 v1,.int .i64 v2] w6.heap.size #[.int .i64 u0,.int .i64 u1,.int .i64 u2] none (w6.alloc (.cells #[.int .i64 u0,.int .i64 u1,.int .i64 u2] 24))):=Qd
  ⟨(H1.out.kept hb).kept ((Xb _ w6).alloc (Xa _) _),Box.new _ _ _,(H1.out.kept hb).res.lt,by have:=(H1.out.kept hb).wk.at_.lt;omega,fun g h=>by cases h⟩
 clear hb H1 KU n0 n1 n2;go_upto_region 8 with fail
 refine Uq fun W0 hW0=>?_
 rw[←hW0] at R0;clear hW0;generalize w6.heap.size=g8 at *;obtain⟨⟨x0',x1',x2',x3'⟩,⟨x4',x5',x6'⟩,x7',_⟩:=R0.out.mv.cells;obtain⟨⟨y0',y1',y2',y3'⟩,⟨y4',y5',y6'⟩,y7',_⟩:=R0.out.alloc.mv.cells;dsimp only at x0' x1' x2' x3' x4' x5' x6' x7' y0' y1' y2' y3' y4' y5' y6' y7';have CE:Hid (∀W,Box W g8 24 #[.int .i64 u0,.int .i64 u1,.int .i64 u2]→W.cell? ⟨g8,0,none⟩=some (.int .i64 u0)∧W.cell? ⟨g8,1,none⟩=some (.int .i64 u1)∧W.cell? ⟨g8,2,none⟩=some (.int .i64 u2)):=Qd (fun W H=>⟨H.cell 0,H.cell 1,H.cell 2⟩);have R0d:Hid (LvR w b va ⟨⟨q0,q1,q2,q3⟩,⟨w0,w1,w2⟩,bd⟩ #[.int .i64 v0,.int .i64 v1,.int .i64 v2] g8 #[.int .i64 u0,.int .i64 u1,.int .i64 u2] none W0.drew):=Qd (R0.out.kept (Ue (Xb _ W0) 1));have R0e:Hid (LvR w b va ⟨⟨q0,q1,q2,q3⟩,⟨w0,w1,w2⟩,bd⟩ #[.int .i64 v0,.int .i64 v1,.int .i64 v2] g8 #[.int .i64 u0,.int .i64 u1,.int .i64 u2] (some W0.heap.size) (W0.alloc (.cells #[.int .i64 0,.int .i64 0,.int .i64 0] 24)).drew):=Qd (R0.out.alloc.kept (Ue (Xb _ _) 1));go_cut [10] (fun pt wx=>∃g,pt = .pointer (some ⟨g,0,none⟩)∧Hid (LvE w b va ⟨⟨q0,q1,q2,q3⟩,⟨w0,w1,w2⟩,((bd||xb)||gb)⟩ #[.int .i64 v0,.int .i64 v1,.int .i64 v2] g #[.int .i64 g0,.int .i64 g1,.int .i64 g2] wx))
 case first =>
  refine Xm (S:=fun w'=>w'.cell? ⟨g8,0,none⟩=some (.int .i64 u0)∧w'.cell? ⟨g8,1,none⟩=some (.int .i64 u1)∧w'.cell? ⟨g8,2,none⟩=some (.int .i64 u2)) (by kernel_rfl) (CE.out _ R0d.out.dir) (fun hHeld=>?_);clear R0 R0e x0' x1' x2' x3' x4' x5' x6' x7' y0' y1' y2' y3' y4' y5' y6' y7';refine Qn 0 (.pointer (some ⟨b,0,none⟩)) ?_;refine Qn 1 (.pointer (some ⟨b,0,none⟩)) ?_;refine Qe 2 (.agg #[.int .i64 u0,.int .i64 u1,.int .i64 u2]) (fun w hW=>?_) ?_
  ·obtain⟨c0,c1,c2⟩:=hW;go_simp
  simp only[Qz];refine Qn 3 (.pointer (some ⟨b,0,none⟩)) ?_;refine Qn 4 (.pointer (some ⟨b,0,none⟩)) ?_;refine Qn 5 (.pointer (some ⟨b,0,none⟩)) ?_;refine Qn 12 (.int .i64 dt) ?_;refine Ut fun V hV=>?_
  rw[←hV] at R0d;have D:=R0d;clear hV R0d hHeld;have hHeld:=CE.out _ D.out.dir
  focus
   refine wpAnyH_ready (rs:=[6,17]) (by kernel_rfl) (by simp) ?_;refine Xo rfl (fun KQ hKQ=>?_) (Xo rfl (fun KQ hKQ=>?_) AllReadyH.nil)
   rotate_left
   go_simp;refine hKQ.out _ _ (CE.out _ D.out.alloc.dir) (fun hHeld0=>?_);clear hKQ KQ hHeld0 hHeld;have D1:=D.out.alloc;refine Ut fun V1 hV1=>?_
   rw[←hV1] at D1;replace D:=Qd D1;clear D1 hV1;generalize V.heap.size=g9 at D ⊢;have hHeld:=CE.out _ D.out.dir;refine Qc 6 fun KQ hKQ=>?_
   rotate_left
  all_goals
   obtain⟨⟨x0',x1',x2',x3'⟩,⟨x4',x5',x6'⟩,x7',_⟩:=D.out.mv.cells;dsimp only at x0' x1' x2' x3' x4' x5' x6' x7';go_simp;clear x0' x1' x2' x3' x4' x5' x6' x7';clear hHeld;refine hKQ.out _ _ (CE.out _ D.out.dir) (fun hHeld=>?_);clear hKQ KQ
  focus
   refine wpAnyH_ready (rs:=[7,17]) (by kernel_rfl) (by simp) ?_;refine Xo rfl (fun KQ hKQ=>?_) (Xo rfl (fun KQ hKQ=>?_) AllReadyH.nil)
   rotate_left
   go_simp;refine hKQ.out _ _ (CE.out _ D.out.alloc.dir) (fun hHeld0=>?_);clear hKQ KQ hHeld0 hHeld;have D1:=D.out.alloc;refine Ut fun V1 hV1=>?_
   rw[←hV1] at D1;replace D:=Qd D1;clear D1 hV1;generalize V.heap.size=g9 at D ⊢;have hHeld:=CE.out _ D.out.dir;refine Qc 7 fun KQ hKQ=>?_
   rotate_left
  all_goals (first|(refine wpAnyH_ready (rs:=[7]) (by kernel_rfl) (by simp) ?_;refine Xo rfl (fun KQ hKQ=>?_) AllReadyH.nil)|skip)
  all_goals
   go_simp;refine(KUp.out _).mono ?_;rintro e V ⟨rfl,hb⟩;replace D:=Qd (D.out.kept hb);clear hb;clear hHeld;refine hKQ.out _ _ (CE.out _ D.out.dir) (fun hHeld=>?_);clear hKQ KQ
  focus
   refine wpAnyH_ready (rs:=[8,17]) (by kernel_rfl) (by simp) ?_;refine Xo rfl (fun KQ hKQ=>?_) (Xo rfl (fun KQ hKQ=>?_) AllReadyH.nil)
   rotate_left
   go_simp;refine hKQ.out _ _ (CE.out _ D.out.alloc.dir) (fun hHeld0=>?_);clear hKQ KQ hHeld0 hHeld;have D1:=D.out.alloc;refine Ut fun V1 hV1=>?_
   rw[←hV1] at D1;replace D:=Qd D1;clear D1 hV1;generalize V.heap.size=g9 at D ⊢;have hHeld:=CE.out _ D.out.dir;refine Qc 8 fun KQ hKQ=>?_
   rotate_left
  all_goals (first|(refine wpAnyH_ready (rs:=[8]) (by kernel_rfl) (by simp) ?_;refine Xo rfl (fun KQ hKQ=>?_) AllReadyH.nil)|skip)
  all_goals
   go_simp;refine(KX.out _).mono ?_;rintro e V ⟨rfl,hb⟩;replace D:=Qd (D.out.kept hb);clear hb;clear hHeld;refine hKQ.out _ _ (CE.out _ D.out.dir) (fun hHeld=>?_);clear hKQ KQ;refine Qn 9 (.agg #[.int .i64 x0,.int .i64 x1,.int .i64 x2]) ?_;refine Qn 10 (.bool xb) ?_
  focus
   refine wpAnyH_ready (rs:=[11,17]) (by kernel_rfl) (by simp) ?_;refine Xo rfl (fun KQ hKQ=>?_) (Xo rfl (fun KQ hKQ=>?_) AllReadyH.nil)
   rotate_left
   go_simp;refine hKQ.out _ _ (CE.out _ D.out.alloc.dir) (fun hHeld0=>?_);clear hKQ KQ hHeld0 hHeld;have D1:=D.out.alloc;refine Ut fun V1 hV1=>?_
   rw[←hV1] at D1;replace D:=Qd D1;clear D1 hV1;generalize V.heap.size=g9 at D ⊢;have hHeld:=CE.out _ D.out.dir;refine Qc 11 fun KQ hKQ=>?_
   rotate_left
  all_goals (first|(refine wpAnyH_ready (rs:=[11]) (by kernel_rfl) (by simp) ?_;refine Xo rfl (fun KQ hKQ=>?_) AllReadyH.nil)|skip)
  all_goals
   go_simp;refine(KW.out _ _ _ _ _ _ _ _ D.out.mv.wk).mono ?_;rintro e V ⟨rfl,h2,hg2⟩;replace D:=Qd (D.out.turned h2 hg2);clear h2 hg2;clear hHeld;refine hKQ.out _ _ (CE.out _ D.out.dir) (fun hHeld=>?_);clear hKQ KQ
  focus
   refine wpAnyH_ready (rs:=[13,17]) (by kernel_rfl) (by simp) ?_;refine Xo rfl (fun KQ hKQ=>?_) (Xo rfl (fun KQ hKQ=>?_) AllReadyH.nil)
   rotate_left
   go_simp;refine hKQ.out _ _ (CE.out _ D.out.alloc.dir) (fun hHeld0=>?_);clear hKQ KQ hHeld0 hHeld;have D1:=D.out.alloc;refine Ut fun V1 hV1=>?_
   rw[←hV1] at D1;replace D:=Qd D1;clear D1 hV1;generalize V.heap.size=g9 at D ⊢;have hHeld:=CE.out _ D.out.dir;refine Qc 13 fun KQ hKQ=>?_
   rotate_left
  all_goals (first|(refine wpAnyH_ready (rs:=[13]) (by kernel_rfl) (by simp) ?_;refine Xo rfl (fun KQ hKQ=>?_) AllReadyH.nil)|skip)
  all_goals
   go_simp;refine(KC.out _).mono ?_;rintro e V ⟨rfl,hb⟩;replace D:=Qd (D.out.kept hb);clear hb;clear hHeld;refine hKQ.out _ _ (CE.out _ D.out.dir) (fun hHeld=>?_);clear hKQ KQ;refine Qn 14 (.agg #[.int .i64 g0,.int .i64 g1,.int .i64 g2]) ?_;refine Qn 15 (.bool gb) ?_
  focus
   refine wpAnyH_ready (rs:=[16,17]) (by kernel_rfl) (by simp) ?_;refine Xo rfl (fun KQ hKQ=>?_) (Xo rfl (fun KQ hKQ=>?_) AllReadyH.nil)
   rotate_left
   go_simp;refine hKQ.out _ _ (CE.out _ D.out.alloc.dir) (fun hHeld0=>?_);clear hKQ KQ hHeld0 hHeld;have D1:=D.out.alloc;refine Ut fun V1 hV1=>?_
   rw[←hV1] at D1;replace D:=Qd D1;clear D1 hV1;generalize V.heap.size=g9 at D ⊢;have hHeld:=CE.out _ D.out.dir;refine Qc 16 fun KQ hKQ=>?_
   rotate_left
  all_goals (first|(refine wpAnyH_ready (rs:=[16]) (by kernel_rfl) (by simp) ?_;refine Xo rfl (fun KQ hKQ=>?_) AllReadyH.nil)|skip)
  all_goals
   go_simp;refine(KW.out _ _ _ _ _ _ _ _ D.out.mv.wk).mono ?_;rintro e V ⟨rfl,h2,hg2⟩;replace D:=Qd (D.out.turned h2 hg2);clear h2 hg2;clear hHeld;refine hKQ.out _ _ (CE.out _ D.out.dir) (fun hHeld=>?_);clear hKQ KQ
  focus
   refine Qc 17 fun KQ hKQ=>?_
   go_simp;refine hKQ.out _ _ (CE.out _ D.out.alloc.dir) (fun hHeld0=>?_);clear hKQ KQ hHeld0 hHeld;have D1:=D.out.alloc;refine Ut fun V1 hV1=>?_
   rw[←hV1] at D1;replace D:=Qd D1;clear D1 hV1;generalize V.heap.size=g9 at D ⊢;have hHeld:=CE.out _ D.out.dir
  all_goals
   refine Qc 18 fun KQ hKQ=>?_
   obtain⟨n0,n1,n2,n3,n4,n5⟩:=Ubz (D.out.new _ rfl).1;go_simp;clear hHeld;refine hKQ.out _ _ (CE.out _ (D.out.dir2 _ _ _)) (fun hHeld=>?_);clear hKQ KQ n0 n1 n2 n3 n4 n5 hHeld CE KX KC KUp KW KY KS KH;refine Xl (by kernel_rfl) ?_ _;go_wp2_with fail;go_meet
   case rel =>
    have hx:=Qd (D.out.fin2 (.int .i64 g0) (.int .i64 g1) (.int .i64 g2))
    with_reducible exact⟨_,rfl,hx⟩
 case rest =>
  obtain⟨g,rfl,E0⟩:=hcut;clear x0' x1' x2' x3' x4' x5' x6' x7' y0' y1' y2' y3' y4' y5' y6' y7' CE R0 R0d R0e KX KC KUp;obtain⟨_,⟨x4',x5',x6'⟩,_,_⟩:=E0.out.mv.cells;dsimp only at x4' x5' x6';obtain⟨n0,n1,n2,_,_,_⟩:=Ubz E0.out.box;go_upto_region 9 with fail
  go_region_with (first|(go_at_call 153;refine(KH.out _).mono ?_;rintro e wa ⟨rfl,hb⟩;have E1:=Qd (E0.out.kept (Uv hb));clear hb;obtain⟨_,⟨a4,a5,a6⟩,_,_⟩:=E1.out.mv.cells;dsimp only at a4 a5 a6)|(go_at_call 130;refine(KS.out _).mono ?_;rintro e wd ⟨rfl,hb⟩;have E3:=Qd (E2.out.kept hb);clear hb)|(go_at_call 189;refine(KW.out _ _ _ _ _ _ _ _ E3.out.mv.wk).mono ?_;rintro e we ⟨rfl,h2,hg2⟩;have E4:=Qd (E3.out.turned h2 hg2);clear h2 hg2;have f4:=E4.out.mv.wk.at_.frozen 4;have f5:=E4.out.mv.wk.at_.frozen 5;have f6:=E4.out.mv.wk.at_.frozen 6;obtain⟨_,⟨d4,d5,d6⟩,_,_⟩:=E4.out.mv.cells;dsimp only at d4 d5 d6)|(go_at_call 189;refine(KW.out _ _ _ _ _ _ _ _ E1.out.mv.wk).mono ?_;rintro e wb ⟨rfl,h2,hg2⟩;have E2:=Qd (E1.out.turned h2 hg2);clear h2 hg2;obtain⟨_,⟨b4,b5,b6⟩,_,_⟩:=E2.out.mv.cells;dsimp only at b4 b5 b6))
  all_goals
   have E5:=Qd (E4.out.setW (t':=⟨s0,s1,s2⟩));dsimp only at E5;refine Yn fun W5 hW5=>?_
   rw[←hW5] at E5;clear hW5 E4 E3 E2 E1 E0 x4' x5' x6' n0 n1 n2 a4 a5 a6 b4 b5 b6 d4 d5 d6 f4 f5 f6;obtain⟨n0,n1,n2,_,_,_⟩:=Ubz E5.out.box;go_wp2_with fail;refine(KY.out _ _ _ _ E5.out.mv.wk).mono ?_;rintro e wf ⟨rfl,h2,hg2⟩;have H7:=E5.out.mv.turned h2 hg2;clear h2 hg2 E5 n0 n1 n2;generalize hP:byP _ _=P at H7;have HP:=Qd hP;clear hP;obtain⟨⟨r0,r1,r2,r3⟩,⟨t0,t1,t2⟩,tb⟩:=P;have H2:=Qd H7;clear H7;obtain⟨⟨x0,x1,x2,x3⟩,⟨x4,x5,x6⟩,x7,_⟩:=H2.out.cells;dsimp only at x0 x1 x2 x3 x4 x5 x6 x7;go_wp2_with (with_reducible first|refine Qh 47 ?_);refine Uf.go (w.heap.size+1+1) rfl rfl H2.out.res (by kernel_rfl) rfl (by simp[Value.oneCell']) ?_;go_wp2_with fail;exact Xk (results_cell_row results165 _ _ (w.heap.size+1+1) 47 _ (0,0) _ rfl (H2.out.res.row _) underlying47 rfl Ua6) rfl ⟨by rw[HP.out]<;>rfl,Uc H2.out.below (by omega) _⟩
theorem Uwc (p0:Pos)(v:V3)(dt:Int)(w:World):Calls prog 165 #[pv p0,v3 v,.int .i64 dt] w (Ub (pv (Udh p0 v dt)) w):=by
 by_cases hg:Ua3 v.list=true∨dt<0∨4294967296<dt
 ·have:Udh p0 v dt={ Yb p0 with bad:=true }:=by unfold Udh;dsimp only;rw[if_pos hg]
  rw[this];exact Uzt p0 v dt w hg
 ·by_cases hu:(Ub5 v).2=true
  ·have:Udh p0 v dt=Yb p0:=by unfold Udh;dsimp only;rw[if_neg hg,if_pos hu]
   rw[this];exact Uwa p0 v dt w hg hu
  ·have h:=Uwb p0 v dt w hg (by simpa using hu);unfold Udh;dsimp only;rw[if_neg hg,if_neg hu];exact h
end Go.Proofs.YtdaflmjfeoacaaaGreat
