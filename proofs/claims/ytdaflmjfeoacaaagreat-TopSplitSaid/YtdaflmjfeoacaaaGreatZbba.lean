/- Part of the proof of TopTry, TopSplit: FiI, FiJ. Conditions: none. -/
import Derived.Test.YtdaflmjfeoacaaaGreatZbaz
set_option linter.all false
set_option maxHeartbeats 16000000
set_option maxRecDepth 4000
namespace Go.Proofs.YtdaflmjfeoacaaaGreat
open Tryz
open Go.RowKit
theorem Uwf (x:Sta)(c:Uag)(s:Smp)(w:World)(he:(Uei (Zs x) c s).2≠0):Calls prog 82 #[stv x,Ucf c,Udr s] w (Ub (.tuple #[stv (Uej x c s).1,.int .i64 (Uej x c s).2]) w):=by
 have F:Hid (Uej x c s=(if (Zs x).n<1099511627776∧(Zs x).out<1099511627776 then { (Zs x) with out:=(Zs x).out+1 } else Zs x,(Uei (Zs x) c s).2)):=Qd (by unfold Uej;dsimp only;rw[if_pos he]);have KN:=Qd (fun w=>Ugj x w);have KR:=Qd (fun w=>Unc (Zs x) c s w);have HS:=Qd (Ufr x);rw[F.out];clear F;generalize Zs x=y at *;have HXS:Hid ((prog.info? 52).map (·.size)=some x.cells.size):=Qd Yj;have HYS:Hid ((prog.info? 52).map (·.size)=some y.cells.size):=Qd Yj;have HCS:Hid ((prog.info? 27).map (·.size)=some c.cells.size):=Qd Ua4;have HYO:=Qd y.one;have HYZ:Hid (Uae.cells.size=y.cells.size):=Qd rfl;have CY:Hid (∀W,Box W w.heap.size 52 y.cells→W.cell? ⟨w.heap.size,0,none⟩=some (.int .i64 y.t)∧W.cell? ⟨w.heap.size,1,none⟩=some (.int .i64 y.n)∧W.cell? ⟨w.heap.size,2,none⟩=some (.int .i64 y.out)):=Qd (fun W h=>Ull h);have HYC:Hid (∀W,Box W w.heap.size 52 y.cells→Box (W.setCell ⟨w.heap.size,2,none⟩ (.int .i64 (y.out+1))) w.heap.size 52 ({ y with out:=y.out+1 }:Sta).cells):=Qd (fun W h=>Uzf h _);have CF:Hid (∀W,Box W w.heap.size 52 y.cells→W.frozen? ⟨w.heap.size,2,none⟩=false):=Qd (fun W h=>h.frozen 2);have hw1:IntKind.i64.wrap (y.out+1)=y.out+1:=by have:=HS.out.2.2.1;unfold Ua0 at this;rw[Xf];omega
 generalize Uei y c s=rr at *;obtain⟨⟨r0,r1,r2⟩,er⟩:=rr;have e1:(er != 0)=true:=by simpa using he
 have e2:(er==0)=false:=by simpa using he
 clear he;dsimp only[stv,Ucf,v3] at KN KR ⊢;obtain⟨st,sk,⟨v0,v1,v2⟩⟩:=s;dsimp only[Udr,Smp.cells] at KR ⊢;generalize x.cells=xs at *;generalize c.cells=cs at *;by_cases h1:y.n<1099511627776
 ·have d1:decide (y.n<1099511627776)=true:=Xi h1;by_cases h2:y.out<1099511627776;rotate_right
  focus
   have d2:decide (y.out<1099511627776)=false:=Xh h2;rw[if_neg (fun h=>h2 h.2)]
  rotate_right
  focus
   have d2:decide (y.out<1099511627776)=true:=Xi h2;rw[if_pos ⟨h1,h2⟩]
  all_goals
   generalize hys:y.cells=ys at *;clear h1 h2 hys;go_enter func82,ntmps82;go_upto_region 1 with fail
   refine Uq fun W0 hW0=>?_
   have R0:Hid (FdR w xs cs #[.int .i64 st,.int .i64 sk,.int .i64 v0,.int .i64 v1,.int .i64 v2] W0):=Qd (by rw[hW0];exact FdR.new w xs cs #[.int .i64 st,.int .i64 sk,.int .i64 v0,.int .i64 v1,.int .i64 v2]);clear hW0;go_wp2_with (with_reducible first|refine Qg 52 ?_|refine Qh 52 ?_|refine Qg 27 ?_|refine Qk 187 ?_);refine Uo.go w.heap.size rfl R0.out.x underlying52 rfl HXS.out ?_;go_wp2_with (with_reducible first|refine Qg 52 ?_|refine Qh 52 ?_|refine Qg 27 ?_|refine Qk 187 ?_);refine(KN.out _).mono ?_;rintro e w1 ⟨rfl,hb⟩;have R1:=Qd (R0.out.kept hb);clear hb R0 KN;go_wp2_with (with_reducible first|refine Qg 52 ?_|refine Qh 52 ?_|refine Qg 27 ?_|refine Qk 187 ?_);refine Uf.go w.heap.size rfl rfl R1.out.x HYS.out (by have h1:=HXS.out;have h2:=HYS.out;rw[h1] at h2;exact Option.some.inj h2) HYO.out ?_;go_upto_region 2 with fail
   refine Uq fun W2 hW2=>?_
   have R2:Hid (FdR w ys cs #[.int .i64 st,.int .i64 sk,.int .i64 v0,.int .i64 v1,.int .i64 v2] W2):=Qd (by rw[hW2];exact R1.out.known);clear hW2 R1;obtain⟨⟨s0,s1,s2,s3,s4⟩,_⟩:=Udl R2.out.s;go_wp2_with (with_reducible first|refine Qg 52 ?_|refine Qh 52 ?_|refine Qg 27 ?_|refine Qk 187 ?_);refine Uo.go w.heap.size rfl R2.out.x underlying52 rfl HYS.out ?_;go_wp2_with (with_reducible first|refine Qg 52 ?_|refine Qh 52 ?_|refine Qg 27 ?_|refine Qk 187 ?_);refine Uo.go (w.heap.size+1) rfl R2.out.c underlying27 rfl HCS.out ?_;go_wp2_with (with_reducible first|refine Qg 52 ?_|refine Qh 52 ?_|refine Qg 27 ?_|refine Qk 187 ?_);refine(KR.out _).mono ?_;rintro e w3 ⟨rfl,hb⟩;have R3:=Qd (R2.out.kept hb);clear hb R2 KR s0 s1 s2 s3 s4;go_upto_region 3 with fail
   refine Uq fun W4 hW4=>?_
   have N4:Hid (Box W4 w3.heap.size 24 #[.int .i64 r0,.int .i64 r1,.int .i64 r2]):=Qd (by rw[hW4];exact Box.new _ _ _);have R4:Hid (FdR w ys cs #[.int .i64 st,.int .i64 sk,.int .i64 v0,.int .i64 v1,.int .i64 v2] W4):=Qd (by rw[hW4];exact R3.out.kept ((Xb _ w3).alloc (Xa _) _));have HG:w.heap.size+1+1+1<w3.heap.size:=R3.out.r.lt;clear hW4 R3;generalize w3.heap.size=g8 at *;obtain⟨y0,y1,y2⟩:=CY.out _ R4.out.x
  rotate_right;rotate_right
  focus
   have f2:=CF.out _ R4.out.x;go_upto_region 6 with fail
   refine Uq fun W5 hW5=>?_
   have R5:Hid (FdR w ({ y with out:=y.out+1 }:Sta).cells cs #[.int .i64 st,.int .i64 sk,.int .i64 v0,.int .i64 v1,.int .i64 v2] W5):=Qd (by rw[hW5];exact⟨HYC.out _ R4.out.x,R4.out.c.far (by simp) _,R4.out.s.far (by simp;omega) _,R4.out.r.far (by simp;omega) _,R4.out.below.setCell (Xa _) _⟩);clear hW5 R4 y0 y1 y2
  all_goals
   go_wp2_with (with_reducible first|refine Qg 52 ?_|refine Qh 52 ?_|refine Qg 27 ?_|refine Qk 187 ?_)
  rotate_right
  focus
   refine Uo.go w.heap.size rfl R4.out.x underlying52 rfl HYS.out ?_
  rotate_right
  focus
   refine Uo.go w.heap.size rfl R5.out.x underlying52 rfl Yj ?_
  all_goals
   go_wp2_with (with_reducible first|refine Qg 52 ?_|refine Qh 52 ?_|refine Qg 27 ?_|refine Qk 187 ?_)
  ·refine Uf.go (w.heap.size+1+1+1) rfl rfl R5.out.r Yj rfl (Sta.one _) ?_;go_wp2_with fail;exact Xk (Ud results82 _ _ (w.heap.size+1+1+1) 52 _ (0,0) _ rfl (R5.out.r.row _) underlying52 rfl Yj) rfl ⟨rfl,Uc R5.out.below (by omega) _⟩
  ·refine Uf.go (w.heap.size+1+1+1) rfl rfl R4.out.r HYS.out HYZ.out HYO.out ?_;go_wp2_with fail;exact Xk (Ud results82 _ _ (w.heap.size+1+1+1) 52 _ (0,0) _ rfl (R4.out.r.row _) underlying52 rfl HYS.out) rfl ⟨rfl,Uc R4.out.below (by omega) _⟩
 ·have d1:decide (y.n<1099511627776)=false:=Xh h1;rw[if_neg (fun h=>h1 h.1)];generalize hys:y.cells=ys at *;clear h1 hys;go_enter func82,ntmps82;go_upto_region 1 with fail
  refine Uq fun W0 hW0=>?_
  have R0:Hid (FdR w xs cs #[.int .i64 st,.int .i64 sk,.int .i64 v0,.int .i64 v1,.int .i64 v2] W0):=Qd (by rw[hW0];exact FdR.new w xs cs #[.int .i64 st,.int .i64 sk,.int .i64 v0,.int .i64 v1,.int .i64 v2]);clear hW0;go_wp2_with (with_reducible first|refine Qg 52 ?_|refine Qh 52 ?_|refine Qg 27 ?_|refine Qk 187 ?_);refine Uo.go w.heap.size rfl R0.out.x underlying52 rfl HXS.out ?_;go_wp2_with (with_reducible first|refine Qg 52 ?_|refine Qh 52 ?_|refine Qg 27 ?_|refine Qk 187 ?_);refine(KN.out _).mono ?_;rintro e w1 ⟨rfl,hb⟩;have R1:=Qd (R0.out.kept hb);clear hb R0 KN;go_wp2_with (with_reducible first|refine Qg 52 ?_|refine Qh 52 ?_|refine Qg 27 ?_|refine Qk 187 ?_);refine Uf.go w.heap.size rfl rfl R1.out.x HYS.out (by have h1:=HXS.out;have h2:=HYS.out;rw[h1] at h2;exact Option.some.inj h2) HYO.out ?_;go_upto_region 2 with fail
  refine Uq fun W2 hW2=>?_
  have R2:Hid (FdR w ys cs #[.int .i64 st,.int .i64 sk,.int .i64 v0,.int .i64 v1,.int .i64 v2] W2):=Qd (by rw[hW2];exact R1.out.known);clear hW2 R1;obtain⟨⟨s0,s1,s2,s3,s4⟩,_⟩:=Udl R2.out.s;go_wp2_with (with_reducible first|refine Qg 52 ?_|refine Qh 52 ?_|refine Qg 27 ?_|refine Qk 187 ?_);refine Uo.go w.heap.size rfl R2.out.x underlying52 rfl HYS.out ?_;go_wp2_with (with_reducible first|refine Qg 52 ?_|refine Qh 52 ?_|refine Qg 27 ?_|refine Qk 187 ?_);refine Uo.go (w.heap.size+1) rfl R2.out.c underlying27 rfl HCS.out ?_;go_wp2_with (with_reducible first|refine Qg 52 ?_|refine Qh 52 ?_|refine Qg 27 ?_|refine Qk 187 ?_);refine(KR.out _).mono ?_;rintro e w3 ⟨rfl,hb⟩;have R3:=Qd (R2.out.kept hb);clear hb R2 KR s0 s1 s2 s3 s4;go_upto_region 3 with fail
  refine Uq fun W4 hW4=>?_
  have N4:Hid (Box W4 w3.heap.size 24 #[.int .i64 r0,.int .i64 r1,.int .i64 r2]):=Qd (by rw[hW4];exact Box.new _ _ _);have R4:Hid (FdR w ys cs #[.int .i64 st,.int .i64 sk,.int .i64 v0,.int .i64 v1,.int .i64 v2] W4):=Qd (by rw[hW4];exact R3.out.kept ((Xb _ w3).alloc (Xa _) _));have HG:w.heap.size+1+1+1<w3.heap.size:=R3.out.r.lt;clear hW4 R3;generalize w3.heap.size=g8 at *;obtain⟨y0,y1,y2⟩:=CY.out _ R4.out.x;go_wp2_with (with_reducible first|refine Qg 52 ?_|refine Qh 52 ?_|refine Qg 27 ?_|refine Qk 187 ?_);refine Uo.go w.heap.size rfl R4.out.x underlying52 rfl HYS.out ?_;go_wp2_with (with_reducible first|refine Qg 52 ?_|refine Qh 52 ?_|refine Qg 27 ?_|refine Qk 187 ?_);refine Uf.go (w.heap.size+1+1+1) rfl rfl R4.out.r HYS.out HYZ.out HYO.out ?_;go_wp2_with fail;exact Xk (Ud results82 _ _ (w.heap.size+1+1+1) 52 _ (0,0) _ rfl (R4.out.r.row _) underlying52 rfl HYS.out) rfl ⟨rfl,Uc R4.out.below (by omega) _⟩
theorem U9a (a b c d:Value):(∀w,(Instr.index 191 (.agg #[a,b,c,d]) (.int .i64 0)).run prog w = .ok a w)∧(∀w,(Instr.index 191 (.agg #[a,b,c,d]) (.int .i64 1)).run prog w = .ok b w) ∧
  (∀w,(Instr.index 191 (.agg #[a,b,c,d]) (.int .i64 2)).run prog w = .ok c w)∧(∀w,(Instr.index 191 (.agg #[a,b,c,d]) (.int .i64 3)).run prog w = .ok d w) :=
 ⟨fun _=>by kernel_rfl,fun _=>by kernel_rfl,fun _=>by kernel_rfl,fun _=>by kernel_rfl⟩
theorem Uzu (x:Sta)(c:Uag)(s:Smp)(w:World)(he:(Uei (Zs x) c s).2=0):Calls prog 82 #[stv x,Ucf c,Udr s] w (Ub (.tuple #[stv (Uej x c s).1,.int .i64 (Uej x c s).2]) w):=by
 have F:Hid (Uej x c s=(U8l (Ucg (Zs x) (Uei (Zs x) c s).1 s) s.t,0)):=Qd (by unfold Uej;dsimp only;rw[if_neg (by simp[he])])
 have HSS:Hid (Ubg s∧(Zs x).t≤s.t):=Qd (by
  unfold Uei at he;split at he
  ·exact absurd he (by decide)
  ·rename_i h1;split at he
   ·exact absurd he (by decide)
   ·rename_i h2
    exact⟨Classical.byContradiction fun h=>h1 (Or.inl h),by omega⟩)
 have HM:Hid (¬(Zs x).n=1099511627776∧¬(Zs x).out=1099511627776):=Qd (by
  unfold Uei at he;split at he
  ·exact absurd he (by decide)
  ·rename_i h1
   exact⟨fun h=>h1 (Or.inr (Or.inl h)),fun h=>h1 (Or.inr (Or.inr h))⟩)
 have KN:=Qd (fun w=>Ugj x w);have KR:=Qd (fun w=>Unc (Zs x) c s w);have HS:=Qd (Ufr x);rw[F.out];clear F;generalize Zs x=y at *;have HXS:Hid ((prog.info? 52).map (·.size)=some x.cells.size):=Qd Yj;have HYS:Hid ((prog.info? 52).map (·.size)=some y.cells.size):=Qd Yj;have HCS:Hid ((prog.info? 27).map (·.size)=some c.cells.size):=Qd Ua4;have HYO:=Qd y.one;have HYZ:Hid (Uae.cells.size=y.cells.size):=Qd rfl;have CY:Hid (∀W,Box W w.heap.size 52 y.cells→W.cell? ⟨w.heap.size,0,none⟩=some (.int .i64 y.t)∧W.cell? ⟨w.heap.size,1,none⟩=some (.int .i64 y.n)∧W.cell? ⟨w.heap.size,2,none⟩=some (.int .i64 y.out)):=Qd (fun W h=>Ull h);have hw1:IntKind.i64.wrap (s.t-y.t)=s.t-y.t:=by have h1:=HS.out.1;have h2:=HSS.out.1.2.1;unfold Ua0 at h1;rw[Xf];omega
 have hw2:IntKind.i64.wrap (min (s.t-y.t) 16384*4194304)=min (s.t-y.t) 16384*4194304:=by have h1:=HSS.out.2;rw[Xf];omega
 have HN:Hid (IntKind.i64.wrap (y.n+1)=y.n+1∧IntKind.i64.wrap (y.out+1)=y.out+1):=Qd (by have h1:=HS.out.2.1;have h2:=HS.out.2.2.1;unfold Ua0 at h1 h2;rw[Xf,Xf];omega);generalize Uei y c s=rr at *;obtain⟨r,er⟩:=rr;dsimp only at he;subst he;have hz1:((0:Int) != 0)=false:=rfl;dsimp only at KR ⊢;have HB:=Qd (fun w=>U22 y r (min (s.t-y.t) 16384*4194304) w);have HO:Hid (Uhr y r s.t=⟨y,r,min (s.t-y.t) 16384*4194304,true⟩):=Qd rfl;have HWK:Hid (Ucg y r s=Ulq (U5t (U5s (U5r (Uhr y r s.t) (Uc0 (Uhr y r s.t) s.s)) (Uc0 (Uhr y r s.t) s.s)) (Uc0 (Uhr y r s.t) s.s)) s.s):=Qd rfl;have HWN:=Qd (Uuj y r s);rw[HO.out] at HWK;generalize hm:min (s.t-y.t) 16384=m at *;have HMM:=Qd hm;have hw3:IntKind.i64.wrap (min (s.t-y.t) 16384*4194304)=m*4194304:=by rw[HMM.out];exact hw2
 clear hm HO hw2;have KSP:=Qd (fun b w (H:Box w b 187 (Wrk.mk y r (m*4194304) true).cells)=>Uql s.s H);generalize hk0:Wrk.mk y r (m*4194304) true=k0 at *;generalize Uc0 k0 s.s=a at *;obtain⟨p0,hp0⟩:∃p,Zl k0.x.x0 a.x k0.dt 1073741824=p:=⟨_,rfl⟩;have KP0:Hid (∀w,Calls prog 108 #[.agg k0.x.x0.list.toArray,.int .i64 a.x,.int .i64 k0.dt,.int .i64 1073741824] w (Ub (.agg (Zl k0.x.x0 a.x k0.dt 1073741824).list.toArray) w)):=Qd (fun w=>Uez k0.x.x0 a.x k0.dt 1073741824 w);obtain⟨k1,hk1⟩:∃k1,U5r k0 a=k1:=⟨_,rfl⟩;have HK1:Hid (k1={ k0 with x:={ k0.x with x0:=p0 } }):=Qd (by rw[←hk1,←hp0];rfl);rw[hp0] at KP0;rw[hk1] at HWK;obtain⟨p1,hp1⟩:∃p,Zl k1.x.x1 a.y k1.dt 1073741824=p:=⟨_,rfl⟩;have KP1:Hid (∀w,Calls prog 108 #[.agg k1.x.x1.list.toArray,.int .i64 a.y,.int .i64 k1.dt,.int .i64 1073741824] w (Ub (.agg (Zl k1.x.x1 a.y k1.dt 1073741824).list.toArray) w)):=Qd (fun w=>Uez k1.x.x1 a.y k1.dt 1073741824 w);obtain⟨k2,hk2⟩:∃k2,U5s k1 a=k2:=⟨_,rfl⟩;have HK2:Hid (k2={ k1 with x:={ k1.x with x1:=p1 } }):=Qd (by rw[←hk2,←hp1];rfl);rw[hp1] at KP1;rw[hk2] at HWK;obtain⟨p2,hp2⟩:∃p,Zl k2.x.x2 a.z k2.dt 1073741824=p:=⟨_,rfl⟩;have KP2:Hid (∀w,Calls prog 108 #[.agg k2.x.x2.list.toArray,.int .i64 a.z,.int .i64 k2.dt,.int .i64 1073741824] w (Ub (.agg (Zl k2.x.x2 a.z k2.dt 1073741824).list.toArray) w)):=Qd (fun w=>Uez k2.x.x2 a.z k2.dt 1073741824 w);obtain⟨k3,hk3⟩:∃k3,U5t k2 a=k3:=⟨_,rfl⟩;have HK3:Hid (k3={ k2 with x:={ k2.x with x2:=p2 } }):=Qd (by rw[←hk3,←hp2];rfl);rw[hp2] at KP2;rw[hk3] at HWK;clear hp0 hp1 hp2 hk1 hk2 hk3;obtain⟨r0,r1,r2⟩:=r;dsimp only[stv,Ucf,v3,Udr,Smp.cells] at KN KR HB KSP ⊢;generalize Ucg y ⟨r0,r1,r2⟩ s=kk at *;have HK0:Hid (k0=⟨y,⟨r0,r1,r2⟩,m*4194304,true⟩):=Qd hk0.symm;clear hk0;obtain⟨st,sk,⟨v0,v1,v2⟩⟩:=s;dsimp only at KN KR HB KSP HSS HM HWK hw1 hw3 ⊢;have HSK:Hid (sk=0∨sk=1∨sk=2∨sk=3):=Qd (by have h1:=HSS.out.1.2.2.1;have h2:=HSS.out.1.2.2.2;dsimp only at h1 h2;omega);have KD:=Qd Uwe;have HDT:Hid (Us1=#[.func (.func 136) #[] #[],.func (.func 137) #[] #[],.func (.func 138) #[] #[],.func (.func 139) #[] #[]]):=Qd rfl;rw[HDT.out] at KD;clear HDT;obtain⟨ix0,ix1,ix2,ix3⟩:=U9a (.func (.func 136) #[] #[]) (.func (.func 137) #[] #[]) (.func (.func 138) #[] #[]) (.func (.func 139) #[] #[]);generalize x.cells=xs at *;generalize c.cells=cs at *;generalize hys:y.cells=ys at *;clear hys;go_enter func82,ntmps82;go_upto_region 1 with fail
 refine Uq fun W0 hW0=>?_
 have R0:Hid (FdR w xs cs #[.int .i64 st,.int .i64 sk,.int .i64 v0,.int .i64 v1,.int .i64 v2] W0):=Qd (by rw[hW0];exact FdR.new w xs cs #[.int .i64 st,.int .i64 sk,.int .i64 v0,.int .i64 v1,.int .i64 v2]);clear hW0;go_wp2_with (with_reducible first|refine Qg 52 ?_|refine Qh 52 ?_|refine Qg 27 ?_|refine Qk 187 ?_);refine Uo.go w.heap.size rfl R0.out.x underlying52 rfl HXS.out ?_;go_wp2_with (with_reducible first|refine Qg 52 ?_|refine Qh 52 ?_|refine Qg 27 ?_|refine Qk 187 ?_);refine(KN.out _).mono ?_;rintro e w1 ⟨rfl,hb⟩;have R1:=Qd (R0.out.kept hb);clear hb R0 KN;go_wp2_with (with_reducible first|refine Qg 52 ?_|refine Qh 52 ?_|refine Qg 27 ?_|refine Qk 187 ?_);refine Uf.go w.heap.size rfl rfl R1.out.x HYS.out (by have h1:=HXS.out;have h2:=HYS.out;rw[h1] at h2;exact Option.some.inj h2) HYO.out ?_;go_upto_region 2 with fail
 refine Uq fun W2 hW2=>?_
 have R2:Hid (FdR w ys cs #[.int .i64 st,.int .i64 sk,.int .i64 v0,.int .i64 v1,.int .i64 v2] W2):=Qd (by rw[hW2];exact R1.out.known);clear hW2 R1;obtain⟨⟨s0,s1,s2,s3,s4⟩,_⟩:=Udl R2.out.s;go_wp2_with (with_reducible first|refine Qg 52 ?_|refine Qh 52 ?_|refine Qg 27 ?_|refine Qk 187 ?_);refine Uo.go w.heap.size rfl R2.out.x underlying52 rfl HYS.out ?_;go_wp2_with (with_reducible first|refine Qg 52 ?_|refine Qh 52 ?_|refine Qg 27 ?_|refine Qk 187 ?_);refine Uo.go (w.heap.size+1) rfl R2.out.c underlying27 rfl HCS.out ?_;go_wp2_with (with_reducible first|refine Qg 52 ?_|refine Qh 52 ?_|refine Qg 27 ?_|refine Qk 187 ?_);refine(KR.out _).mono ?_;rintro e w3 ⟨rfl,hb⟩;have R3:=Qd (R2.out.kept hb);clear hb R2 KR s0 s1 s2 s3 s4;go_upto_region 3 with fail
 refine Uq fun W4 hW4=>?_
 have N4:Hid (Box W4 w3.heap.size 24 #[.int .i64 r0,.int .i64 r1,.int .i64 r2]):=Qd (by rw[hW4];exact Box.new _ _ _);have R4:Hid (FdR w ys cs #[.int .i64 st,.int .i64 sk,.int .i64 v0,.int .i64 v1,.int .i64 v2] W4):=Qd (by rw[hW4];exact R3.out.kept ((Xb _ w3).alloc (Xa _) _));have HG:w.heap.size+1+1+1<w3.heap.size:=R3.out.r.lt;clear hW4 R3;generalize w3.heap.size=g8 at *;obtain⟨y0,y1,y2⟩:=CY.out _ R4.out.x;clear CY;go_upto_region 7 with fail
 obtain⟨n0,n1,n2,_⟩:=Ubz N4.out;obtain⟨⟨s0,s1,s2,s3,s4⟩,_⟩:=Udl R4.out.s;go_wp2_with (with_reducible first|refine Qg 52 ?_|refine Qh 52 ?_|refine Qg 27 ?_|refine Qk 187 ?_);refine Uo.go w.heap.size rfl R4.out.x underlying52 rfl HYS.out ?_;go_wp2_with (with_reducible first|refine Qg 52 ?_|refine Qh 52 ?_|refine Qg 27 ?_|refine Qk 187 ?_);refine Ubm.go _ (by simp only[List.map_toArray,List.map_cons,List.map_nil];exact HB.out _) ?_;go_upto_region 8 with fail
 refine Uq fun W5 hW5=>?_
 have WK5:Hid (Box W5 W4.heap.size 187 k0.cells):=Qd (by rw[hW5];exact Box.new _ _ _);have R5:Hid (FdR w ys cs #[.int .i64 st,.int .i64 sk,.int .i64 v0,.int .i64 v1,.int .i64 v2] W5):=Qd (by rw[hW5];exact R4.out.kept ((Xb _ W4).alloc (Xa _) _));have HGb:Hid (w.heap.size+1+1+1<W4.heap.size):=Qd R4.out.r.lt;clear hW5 R4 N4 n0 n1 n2 s0 s1 s2 s3 s4 y0 y1 y2 HB hw1 hw3;generalize W4.heap.size=b at *;obtain⟨⟨s0,s1,s2,s3,s4⟩,_⟩:=Udl R5.out.s;go_wp2_with fail;refine(KSP.out _ _ WK5.out).mono ?_;rintro e w6 ⟨rfl,hb⟩;have WK6:=Qd (WK5.out.kept hb);have R6:=Qd (R5.out.kept hb);clear hb WK5 R5 KSP s0 s1 s2 s3 s4;go_upto_region 9 with fail
 refine Uq fun W7 hW7=>?_
 have Q0:Hid (FdW w ys cs #[.int .i64 st,.int .i64 sk,.int .i64 v0,.int .i64 v1,.int .i64 v2] b k0 w6.heap.size a W7):=Qd (by
  rw[hW7]
  exact⟨R6.out.kept ((Xb _ w6).alloc (Xa _) _),WK6.out.alloc _,Box.new _ _ _,by have:=WK6.out.lt;omega,HGb.out⟩)
 clear hW7 WK6 R6 HGb;generalize w6.heap.size=ga at *;go_wp2_with fail;refine wp_loop_rounds 4 ?_;rw[Xq];go_upto_region 12 with fail
 refine Uk (S:=fun w'=>Box w' b 187 k0.cells∧Box w' ga 24 #[.int .i64 a.x,.int .i64 a.y,.int .i64 a.z]) 21 21 (by kernel_rfl) rfl (by kernel_rfl) (by decide) ⟨Q0.out.drew.wk,Q0.out.drew.a⟩ (fun hHeld=>?_);refine Qn 0 (.pointer (some ⟨b,0,none⟩)) ?_;refine Qn 1 (.int .i64 0) ?_;refine Qn 2 (.pointer (some ⟨b,0,none⟩)) ?_;refine Qn 3 (.int .i64 0) ?_;refine Qn 4 (.pointer (some ⟨b,0,none⟩)) ?_;refine Qn 5 (.pointer (some ⟨b,0,none⟩)) ?_;refine Qn 6 (.pointer (some ⟨b,11,none⟩)) ?_;refine Qn 7 (.pointer (some ⟨b,11,none⟩)) ?_;refine Ux (i:=8) (v := .agg k0.x.x0.list.toArray) rfl rfl (by kernel_rfl) (by kernel_rfl) (by kernel_rfl) (fun _ _ _ h=>h)
  (Xn (by rfl) 49 _ rfl b (11) rfl k0.x.x0.list _ (fun _ h=>U4f h.1) underlying49 rfl Uy) hHeld ?_
 simp only[Qz];refine Qn 9 (.int .i64 0) ?_;refine Qn 10 (.pointer (some ⟨ga,0,none⟩)) ?_;refine Qe 11 (.int .i64 a.x) (fun w hw=>?_) ?_
 ·have e0:=hw.2.cell 0;simp only[List.getElem?_toArray,List.getElem?_cons_zero,List.getElem?_cons_succ] at e0;go_simp
 simp only[Qz];refine Qn 12 (.pointer (some ⟨b,0,none⟩)) ?_;refine Qn 13 (.pointer (some ⟨b,0,none⟩)) ?_;refine Qn 14 (.pointer (some ⟨b,32,none⟩)) ?_;refine Qe 15 (.int .i64 k0.dt) (fun w hw=>?_) ?_
 ·obtain⟨_,_,_,e32⟩:=Ugk hw.1;go_simp
 simp only[Qz];refine Qn 17 (.pointer (some ⟨b,0,none⟩)) ?_;refine Qn 18 (.pointer (some ⟨b,0,none⟩)) ?_;refine Qn 19 (.pointer (some ⟨b,11,none⟩)) ?_;refine Qc 16 fun KQ hKQ=>?_
 go_simp;refine(KP0.out _).mono ?_;rintro e u0 ⟨rfl,hb⟩;have Y0:=Qd (Q0.out.drew.kept hb);refine hKQ.out _ _ ⟨Y0.out.wk,Y0.out.a⟩ (fun hHeld=>?_);clear hKQ KQ hb;refine Qn 20 (.pointer (some ⟨b,11,none⟩)) ?_;refine Xl (by kernel_rfl) ?_ _;refine U4 rfl (by rfl) ?_;refine wp_store_mid 49 _ _ rfl b 11 p0.list.toArray rfl rfl (Udi (n:=6) Y0.out.wk (by omega)) Uy p0.one ?_;refine Yn fun E0 hE=>?_
 have Q1:Hid (FdW w ys cs #[.int .i64 st,.int .i64 sk,.int .i64 v0,.int .i64 v1,.int .i64 v2] b ({ k0 with x:={ k0.x with x0:=p0 } }:Wrk) ga a E0):=Qd (by rw[hE];exact Y0.out.turned (Uzj Y0.out.wk p0) (Yf b _ _ _));rw[←HK1.out] at Q1;clear hE hHeld Y0 Q0 KP0;go_wp2_with fail;rw[Xq];go_upto_region 12 with fail
 refine Uk (S:=fun w'=>Box w' b 187 k1.cells∧Box w' ga 24 #[.int .i64 a.x,.int .i64 a.y,.int .i64 a.z]) 21 21 (by kernel_rfl) rfl (by kernel_rfl) (by decide) ⟨Q1.out.drew.wk,Q1.out.drew.a⟩ (fun hHeld=>?_);refine Qn 0 (.pointer (some ⟨b,0,none⟩)) ?_;refine Qn 1 (.int .i64 1) ?_;refine Qn 2 (.pointer (some ⟨b,0,none⟩)) ?_;refine Qn 3 (.int .i64 1) ?_;refine Qn 4 (.pointer (some ⟨b,0,none⟩)) ?_;refine Qn 5 (.pointer (some ⟨b,0,none⟩)) ?_;refine Qn 6 (.pointer (some ⟨b,11,none⟩)) ?_;refine Qn 7 (.pointer (some ⟨b,17,none⟩)) ?_;refine Ux (i:=8) (v := .agg k1.x.x1.list.toArray) rfl rfl (by kernel_rfl) (by kernel_rfl) (by kernel_rfl) (fun _ _ _ h=>h)
  (Xn (by rfl) 49 _ rfl b (17) rfl k1.x.x1.list _ (fun _ h=>U4g h.1) underlying49 rfl Uy) hHeld ?_
 simp only[Qz];refine Qn 9 (.int .i64 1) ?_;refine Qn 10 (.pointer (some ⟨ga,1,none⟩)) ?_;refine Qe 11 (.int .i64 a.y) (fun w hw=>?_) ?_
 ·have e0:=hw.2.cell 1;simp only[List.getElem?_toArray,List.getElem?_cons_zero,List.getElem?_cons_succ] at e0;go_simp
 simp only[Qz];refine Qn 12 (.pointer (some ⟨b,0,none⟩)) ?_;refine Qn 13 (.pointer (some ⟨b,0,none⟩)) ?_;refine Qn 14 (.pointer (some ⟨b,32,none⟩)) ?_;refine Qe 15 (.int .i64 k1.dt) (fun w hw=>?_) ?_
 ·obtain⟨_,_,_,e32⟩:=Ugk hw.1;go_simp
 simp only[Qz];refine Qn 17 (.pointer (some ⟨b,0,none⟩)) ?_;refine Qn 18 (.pointer (some ⟨b,0,none⟩)) ?_;refine Qn 19 (.pointer (some ⟨b,11,none⟩)) ?_;refine Qc 16 fun KQ hKQ=>?_
 go_simp;refine(KP1.out _).mono ?_;rintro e u1 ⟨rfl,hb⟩;have Y1:=Qd (Q1.out.drew.kept hb);refine hKQ.out _ _ ⟨Y1.out.wk,Y1.out.a⟩ (fun hHeld=>?_);clear hKQ KQ hb;refine Qn 20 (.pointer (some ⟨b,17,none⟩)) ?_;refine Xl (by kernel_rfl) ?_ _;refine U4 rfl (by rfl) ?_;refine wp_store_mid 49 _ _ rfl b 17 p1.list.toArray rfl rfl (Udi (n:=6) Y1.out.wk (by omega)) Uy p1.one ?_;refine Yn fun E1 hE=>?_
 have Q2:Hid (FdW w ys cs #[.int .i64 st,.int .i64 sk,.int .i64 v0,.int .i64 v1,.int .i64 v2] b ({ k1 with x:={ k1.x with x1:=p1 } }:Wrk) ga a E1):=Qd (by rw[hE];exact Y1.out.turned (Uzk Y1.out.wk p1) (Yf b _ _ _));rw[←HK2.out] at Q2;clear hE hHeld Y1 Q1 KP1;go_wp2_with fail;rw[Xq];go_upto_region 12 with fail
 refine Uk (S:=fun w'=>Box w' b 187 k2.cells∧Box w' ga 24 #[.int .i64 a.x,.int .i64 a.y,.int .i64 a.z]) 21 21 (by kernel_rfl) rfl (by kernel_rfl) (by decide) ⟨Q2.out.drew.wk,Q2.out.drew.a⟩ (fun hHeld=>?_);refine Qn 0 (.pointer (some ⟨b,0,none⟩)) ?_;refine Qn 1 (.int .i64 2) ?_;refine Qn 2 (.pointer (some ⟨b,0,none⟩)) ?_;refine Qn 3 (.int .i64 2) ?_;refine Qn 4 (.pointer (some ⟨b,0,none⟩)) ?_;refine Qn 5 (.pointer (some ⟨b,0,none⟩)) ?_;refine Qn 6 (.pointer (some ⟨b,11,none⟩)) ?_;refine Qn 7 (.pointer (some ⟨b,23,none⟩)) ?_;refine Ux (i:=8) (v := .agg k2.x.x2.list.toArray) rfl rfl (by kernel_rfl) (by kernel_rfl) (by kernel_rfl) (fun _ _ _ h=>h)
  (Xn (by rfl) 49 _ rfl b (23) rfl k2.x.x2.list _ (fun _ h=>U4h h.1) underlying49 rfl Uy) hHeld ?_
 simp only[Qz];refine Qn 9 (.int .i64 2) ?_;refine Qn 10 (.pointer (some ⟨ga,2,none⟩)) ?_;refine Qe 11 (.int .i64 a.z) (fun w hw=>?_) ?_
 ·have e0:=hw.2.cell 2;simp only[List.getElem?_toArray,List.getElem?_cons_zero,List.getElem?_cons_succ] at e0;go_simp
 simp only[Qz];refine Qn 12 (.pointer (some ⟨b,0,none⟩)) ?_;refine Qn 13 (.pointer (some ⟨b,0,none⟩)) ?_;refine Qn 14 (.pointer (some ⟨b,32,none⟩)) ?_;refine Qe 15 (.int .i64 k2.dt) (fun w hw=>?_) ?_
 ·obtain⟨_,_,_,e32⟩:=Ugk hw.1;go_simp
 simp only[Qz];refine Qn 17 (.pointer (some ⟨b,0,none⟩)) ?_;refine Qn 18 (.pointer (some ⟨b,0,none⟩)) ?_;refine Qn 19 (.pointer (some ⟨b,11,none⟩)) ?_;refine Qc 16 fun KQ hKQ=>?_
 go_simp;refine(KP2.out _).mono ?_;rintro e u2 ⟨rfl,hb⟩;have Y2:=Qd (Q2.out.drew.kept hb);refine hKQ.out _ _ ⟨Y2.out.wk,Y2.out.a⟩ (fun hHeld=>?_);clear hKQ KQ hb;refine Qn 20 (.pointer (some ⟨b,23,none⟩)) ?_;refine Xl (by kernel_rfl) ?_ _;refine U4 rfl (by rfl) ?_;refine wp_store_mid 49 _ _ rfl b 23 p2.list.toArray rfl rfl (Udi (n:=6) Y2.out.wk (by omega)) Uy p2.one ?_;refine Yn fun E2 hE=>?_
 have Q3:Hid (FdW w ys cs #[.int .i64 st,.int .i64 sk,.int .i64 v0,.int .i64 v1,.int .i64 v2] b ({ k2 with x:={ k2.x with x2:=p2 } }:Wrk) ga a E2):=Qd (by rw[hE];exact Y2.out.turned (Uzl Y2.out.wk p2) (Yf b _ _ _));rw[←HK3.out] at Q3;clear hE hHeld Y2 Q2 KP2;go_wp2_with fail;rw[Xq];go_upto_region 14 with fail
 go_cut [10] (fun p wx=>p = .pointer (some ⟨b,0,none⟩)∧Hid (FdW w ys cs #[.int .i64 st,.int .i64 sk,.int .i64 v0,.int .i64 v1,.int .i64 v2] b kk ga a wx))
 case first =>
  rcases HSK.out with rfl|rfl|rfl|rfl
  rotate_right
  focus
   have HD3:Hid (kk=Ulp k3):=Qd (by rw[HWK.out];rfl);rw[HD3.out];refine Uk (S:=fun w'=>FdW w ys cs #[.int .i64 st,.int .i64 3,.int .i64 v0,.int .i64 v1,.int .i64 v2] b k3 ga a w') 5 5 (by kernel_rfl) rfl (by kernel_rfl) (by decide) Q3.out.drew (fun hHeld=>?_)
  rotate_right
  focus
   have HD2:Hid (kk=Uui k3):=Qd (by rw[HWK.out];rfl);rw[HD2.out];refine Uk (S:=fun w'=>FdW w ys cs #[.int .i64 st,.int .i64 2,.int .i64 v0,.int .i64 v1,.int .i64 v2] b k3 ga a w') 5 5 (by kernel_rfl) rfl (by kernel_rfl) (by decide) Q3.out.drew (fun hHeld=>?_)
  rotate_right
  focus
   have HD1:Hid (kk=Uuh k3):=Qd (by rw[HWK.out];rfl);rw[HD1.out];refine Uk (S:=fun w'=>FdW w ys cs #[.int .i64 st,.int .i64 1,.int .i64 v0,.int .i64 v1,.int .i64 v2] b k3 ga a w') 5 5 (by kernel_rfl) rfl (by kernel_rfl) (by decide) Q3.out.drew (fun hHeld=>?_)
  rotate_right
  focus
   have HD0:Hid (kk=Uug k3):=Qd (by rw[HWK.out];rfl);rw[HD0.out];refine Uk (S:=fun w'=>FdW w ys cs #[.int .i64 st,.int .i64 0,.int .i64 v0,.int .i64 v1,.int .i64 v2] b k3 ga a w') 5 5 (by kernel_rfl) rfl (by kernel_rfl) (by decide) Q3.out.drew (fun hHeld=>?_)
  all_goals
   refine Qn 1 (.pointer (some ⟨w.heap.size+1+1,1,none⟩)) ?_
  rotate_right
  focus
   refine Qe 2 (.int .i64 3) (fun w hw=>?_) ?_
   ·obtain⟨⟨e0,e1,e2,e3,e4⟩,_⟩:=Udl hw.base.s;go_simp
  rotate_right
  focus
   refine Qe 2 (.int .i64 2) (fun w hw=>?_) ?_
   ·obtain⟨⟨e0,e1,e2,e3,e4⟩,_⟩:=Udl hw.base.s;go_simp
  rotate_right
  focus
   refine Qe 2 (.int .i64 1) (fun w hw=>?_) ?_
   ·obtain⟨⟨e0,e1,e2,e3,e4⟩,_⟩:=Udl hw.base.s;go_simp
  rotate_right
  focus
   refine Qe 2 (.int .i64 0) (fun w hw=>?_) ?_
   ·obtain⟨⟨e0,e1,e2,e3,e4⟩,_⟩:=Udl hw.base.s;go_simp
  all_goals
   simp only[Qz];refine Qn 4 (.pointer (some ⟨b,0,none⟩)) ?_;refine Qc 0 fun KQ hKQ=>?_
   go_simp;refine(KD.out _).mono ?_;rintro e u3 ⟨rfl,hb⟩;have Y3:=Qd (Q3.out.drew.kept hb);refine hKQ.out _ _ Y3.out (fun hHeld=>?_);clear hKQ KQ hb
  rotate_right
  focus
   refine Qe 3 (.func (.func 139) #[] #[]) (fun w hw=>?_) ?_
   ·have ix:=ix3 w;go_simp
  rotate_right
  focus
   refine Qe 3 (.func (.func 138) #[] #[]) (fun w hw=>?_) ?_
   ·have ix:=ix2 w;go_simp
  rotate_right
  focus
   refine Qe 3 (.func (.func 137) #[] #[]) (fun w hw=>?_) ?_
   ·have ix:=ix1 w;go_simp
  rotate_right
  focus
   refine Qe 3 (.func (.func 136) #[] #[]) (fun w hw=>?_) ?_
   ·have ix:=ix0 w;go_simp
  all_goals
   simp only[Qz];refine Xl (by kernel_rfl) ?_ _;refine U4 rfl (by rfl) ?_;go_simp
  rotate_right
  focus
   refine(Uqk Y3.out.wk).mono ?_
  rotate_right
  focus
   refine(Us0 Y3.out.wk).mono ?_
  rotate_right
  focus
   refine(Usz Y3.out.wk).mono ?_
  rotate_right
  focus
   refine(Usy Y3.out.wk).mono ?_
  all_goals
   rintro e u4 ⟨rfl,h1,h2⟩;have Y4:=Qd (Y3.out.turned h1 h2);clear h1 h2 hHeld;go_wp2_with fail
  ·go_meet
   case rel=>exact⟨rfl,by rw[HD0.out];exact Y4⟩
  ·go_meet
   case rel=>exact⟨rfl,by rw[HD1.out];exact Y4⟩
  ·go_meet
   case rel=>exact⟨rfl,by rw[HD2.out];exact Y4⟩
  ·go_meet
   case rel=>exact⟨rfl,by rw[HD3.out];exact Y4⟩
 case rest =>
  obtain⟨rfl,Q4⟩:=hcut;obtain⟨⟨s0,s1,s2,s3,s4⟩,_⟩:=Udl Q4.out.base.s;have c33:=(U5m Q4.out.wk).1;obtain⟨ct,ft⟩:=U88 Q4.out.wk;obtain⟨cn,fn⟩:=U89 Q4.out.wk;obtain⟨co,fo⟩:=U7p Q4.out.wk;have hn1:IntKind.i64.wrap (kk.x.n+1)=kk.x.n+1:=by rw[HWN.out.1];exact HN.out.1
  have hn2:IntKind.i64.wrap (kk.x.out+1)=kk.x.out+1:=by rw[HWN.out.2.1];exact HN.out.2
  have HE:Hid (U8l kk st={ kk.x with out:=if kk.f=true then kk.x.out else kk.x.out+1,n:=kk.x.n+1,t:=st }):=Qd rfl;have hlb:=Q4.out.lb;obtain⟨bf,hbf⟩:∃f,kk.f=f:=⟨_,rfl⟩;rw[hbf] at c33 HE;have HBF:=Qd hbf;clear hbf;cases bf;rotate_right
  focus
   rw[if_pos rfl] at HE;go_upto_region 19 with fail
   refine Uq fun W8 hW8=>?_
   have WK8:Hid (Box W8 b 187 ({ kk with x:={ kk.x with n:=kk.x.n+1,t:=st } }:Wrk).cells):=Qd (by rw[hW8];exact Uzm (Uzn Q4.out.wk _) _);have R8:Hid (FdR w ys cs #[.int .i64 st,.int .i64 sk,.int .i64 v0,.int .i64 v1,.int .i64 v2] W8):=Qd (by rw[hW8];exact(Q4.out.base.grown (Uh _ _ _ _) Q4.out.lb).grown (Uh _ _ _ _) Q4.out.lb)
  rotate_right
  focus
   rw[if_neg (by decide)] at HE;go_upto_region 19 with fail
   refine Uq fun W8 hW8=>?_
   have WK8:Hid (Box W8 b 187 ({ kk with x:={ kk.x with out:=kk.x.out+1,n:=kk.x.n+1,t:=st } }:Wrk).cells):=Qd (by rw[hW8];exact Uzm (Uzn (Uzo Q4.out.wk _) _) _);have R8:Hid (FdR w ys cs #[.int .i64 st,.int .i64 sk,.int .i64 v0,.int .i64 v1,.int .i64 v2] W8):=Qd (by rw[hW8];exact((Q4.out.base.grown (Uh _ _ _ _) Q4.out.lb).grown (Uh _ _ _ _) Q4.out.lb).grown (Uh _ _ _ _) Q4.out.lb)
  all_goals
   clear hW8 Q4 s0 s1 s2 s3 s4 ct ft cn fn co fo c33;go_wp2_with (with_reducible first|refine Yp rfl 52 _ rfl ?_|refine Qh 52 ?_);refine Zr.go b 0 rfl (U7q WK8.out) underlying52 rfl Yj ?_;go_wp2_with (with_reducible first|refine Yp rfl 52 _ rfl ?_|refine Qh 52 ?_);refine Uf.go (w.heap.size+1+1+1) rfl rfl R8.out.r Yj rfl (Sta.one _) ?_;go_wp2_with fail;exact Xk (Ud results82 _ _ (w.heap.size+1+1+1) 52 _ (0,0) _ rfl (R8.out.r.row _) underlying52 rfl Yj) rfl ⟨by rw[HE.out];rfl,Uc R8.out.below (by omega) _⟩
end Go.Proofs.YtdaflmjfeoacaaaGreat
