/- Part of the proof of TopTry, TopSplit: BeO. Conditions: none. -/
import Derived.Test.YtdaflmjfeoacaaaGreatZbbq
set_option linter.all false
set_option maxHeartbeats 16000000
set_option maxRecDepth 4000
namespace Go.Proofs.YtdaflmjfeoacaaaGreat
open Tryz
open Go.RowKit Go.Shelf
theorem Unq {w:World}{gb:Nat}{b:Bch}{R:Rep}(hg:Box w gb 55 (ncs b R))(hl:(Ym b R).map List.length=Uf0)(v:Int):Box (w.setCell ⟨gb,222,none⟩ (.int .i64 v)) gb 55 (ncs { b with phase:=v } R):=Ue5 (S:=Ym b R) hg hl 10 0 (o:=222) (by decide) rfl (Nat.zero_lt_one) (.int .i64 v)
theorem U3m {w:World}{gb:Nat}{b:Bch}{R:Rep}(hg:Box w gb 55 (ncs b R))(hl:(Ym b R).map List.length=Uf0)(v:Int):Box (w.setCell ⟨gb,272,none⟩ (.int .i64 v)) gb 55 (ncs { b with ver:=v } R):=Ue5 (S:=Ym b R) hg hl 14 0 (o:=272) (by decide) rfl (Nat.zero_lt_one) (.int .i64 v)
theorem Uxb {X:Nat→Prop}{gb:Nat}{w:World}{R:Rep}{b:Bch}{n:Int}(hg:Box w gb 55 (ncs b R))(h:BnX X w R b)(hs:Ya n b)(hn:n≤1000000)(hX:∀j,X j→j<w.heap.size)(hXg:X gb)(hx:Ual (fuseN b).x) :
  Calls prog 37 #[.pointer (some ⟨gb,0,none⟩)] w (Ujn X gb (fuseN b) w):=by
 have hgl:=hg.lt;have KS:Hid (∀W,FzR w gb b R W→Calls prog 59 #[.pointer (some ⟨gb,0,none⟩),.pointer (some ⟨gb,186,none⟩),.func (.func 62) #[] #[.pointer (some ⟨w.heap.size,0,none⟩)]] W (Uq8 X gb (stepF b) (stepF b).fuse.t.done W)):=Qd (fun W H=>Uw3 H.p H.g (h.chg (Uo9 hXg H.c)) hs hn (fun j hj=>Xe (hX j hj) H.c.size) hXg);have D0:Hid (FzR w gb b R (w.alloc (.cells #[.pointer (some ⟨gb,0,none⟩)] 99))):=Qd ⟨Box.new _ _ _,hg.alloc _,Chg.of ((Xb _ w).alloc (Xa _) _)⟩;have HS1:=Qd hs.stepF;have HFN:Hid (fuseN b=if (stepF b).fuse.t.done then (if (stepF b).phase=4 then { stepF b with ver:=(stepF b).ver+1,phase:=0 } else mergeF (phF (popF (stepF b)))) else stepF b):=Qd rfl;have HX9:=Qd hx;have HXG:=Qd hXg;have HXW:=Qd hX;clear hg h hs hX hXg hx;go_enter func37,ntmps37;go_upto_region 1 with fail
 refine Xm (S:=fun w'=>w'.cell? ⟨w.heap.size,0,none⟩=some (.pointer (some ⟨gb,0,none⟩))∧True) (by kernel_rfl) ⟨D0.out.drew.p.cell 0,trivial⟩ (fun hHeld=>?_);refine Qe 0 (.pointer (some ⟨gb,0,none⟩)) (fun w hW=>?_) ?_
 ·have x1:=hW.1;go_simp
 simp only[Qz];refine Qe 1 (.pointer (some ⟨gb,0,none⟩)) (fun w hW=>?_) ?_
 ·have x1:=hW.1;go_simp
 simp only[Qz];refine Qn 2 (.pointer (some ⟨gb,0,none⟩)) ?_;refine Qn 3 (.pointer (some ⟨gb,186,none⟩)) ?_;refine Qn 4 (.func (.func 62) #[] #[.pointer (some ⟨w.heap.size,0,none⟩)]) ?_;refine Ut fun WD hWD=>?_
 have DD:Hid (FzR w gb b R WD):=Qd (by rw[hWD];exact D0.out.drew);clear hWD D0;refine Qc 5 fun KQ hKQ=>?_
 go_simp;refine(KS.out _ DD.out).mono ?_;rintro e w4 ⟨R1,rfl,h1,h2,h3⟩;have D4:Hid (FzR w gb (stepF b) R1 w4):=Qd ⟨DD.out.p.chg h3 (by omega),h1,DD.out.c.trans h3⟩;have Q4:=Qd h2;clear h1 h2 h3 KS DD;refine hKQ.out _ _ ⟨D4.out.p.cell 0,trivial⟩ (fun hHeld=>?_);clear hKQ KQ;refine Qn 6 (.bool (!(stepF b).fuse.t.done)) ?_;refine Xl (by kernel_rfl) ?_ _;clear hHeld;have xp:=D4.out.p.cell 0;cases hd:(stepF b).fuse.t.done
 ·go_wp2_with fail;exact bodyPost_end (results_none rfl _ _ _) rfl (by rw[HFN.out,hd,if_neg (by decide)];exact⟨R1,rfl,D4.out.g,Q4.out,D4.out.c⟩)
 ·have hl:=Q4.out.lens HS1.out;have xph:=Ue7 D4.out.g Q4.out HS1.out;by_cases hp:(stepF b).phase=4
  ·have xv:=U58 D4.out.g Q4.out HS1.out;have fv:=D4.out.g.frozen 272;have fp:=D4.out.g.frozen 222;have hw1:IntKind.i64.wrap ((stepF b).ver+1)=(stepF b).ver+1:=by have h1:=HS1.out.ver;have h2:=HS1.out.ver0;rw[Xf];omega
   have HP:Hid (∀W,W=(w4.setCell ⟨gb,272,none⟩ (.int .i64 ((stepF b).ver+1))).setCell ⟨gb,222,none⟩ (.int .i64 0)→Ujn X gb (fuseN b) w (.returned (.tuple #[])) W):=Qd (fun W hW=>by
    rw[HFN.out,hd,if_pos rfl,if_pos hp];have hc:Chg (fun j=>j=gb) w4 W:=by rw[hW];exact(Chg.setCell (X:=fun j=>j=gb) (p:=⟨gb,272,none⟩) rfl _).trans (Chg.setCell (X:=fun j=>j=gb) (p:=⟨gb,222,none⟩) rfl _)
    have hq:=Q4.out.chg (Uo9 HXG.out hc);refine⟨R1,rfl,?_,⟨hq.mem,hq.ll,hq.lists,hq.pl,hq.pub,hq.fuse,hq.q,hq.rl,hq.reads⟩,D4.out.c.trans hc⟩;rw[hW]
    exact Unq (b:={ stepF b with ver:=(stepF b).ver+1 }) (U3m D4.out.g hl _) hl 0)
   have hpw:w.heap.size≠gb:=by omega
   rw[hp] at xph;generalize (stepF b).ver=ver at *;clear hl hd hp;go_wp2_with fail;exact bodyPost_end (results_none rfl _ _ _) rfl (HP.out _ rfl)
  ·have hq4:(stepF b).phase<4:=by have:=HS1.out.ph4;omega
   have hp0:=HS1.out.ph0;have HSP:=Qd (HS1.out.popF hq4);have HF2:Hid (fuseN b=mergeF (phF (popF (stepF b)))):=Qd (by rw[HFN.out,hd,if_pos rfl,if_neg hp]);have HPF:Hid (popF (stepF b)=if Uf8 (stepF b).fuse then { stepF b with head:=(stepF b).head.set (stepF b).phase.toNat ((stepF b).head.getD (stepF b).phase.toNat 0+1),m:=(Uiq (stepF b).m (stepF b).phase.toNat (Z3 (stepF b).fuse)).1,top:=if (Uiq (stepF b).m (stepF b).phase.toNat (Z3 (stepF b).fuse)).2=0 then max (stepF b).top (Zd (Z3 (stepF b).fuse)).1.t else (stepF b).top } else stepF b):=Qd rfl;obtain⟨p,hpp⟩:∃p:Nat,(stepF b).phase=(p:Int):=⟨(stepF b).phase.toNat,by omega⟩;rw[hpp] at xph;have hpt:(stepF b).phase.toNat=p:=by omega
   rw[hpt] at HPF;have hp4:p<4:=by omega
   have KT:Hid (∀W,BnX X W R1 (stepF b)→Calls prog 64 #[.agg R1.fuse.toArray] W (Uf5 (stepF b).fuse W)):=Qd (fun W h=>Utj h.fuse.task);have hpe:((p:Int)==4)=false:=by simp;omega
   have HPP:=Qd hpp;have HL1:=Qd hl;clear hpp hpt hp hp0 hd hl HFN hq4;generalize stepF b=b1 at *;have FZ4:=Qd (Xc D4.out Q4.out);have RF4:Hid (w4.rangeAt gb 186 R1.fuse∧(prog.info? 36).map (·.size)=some R1.fuse.length):=Qd ⟨Ue4 (S:=Ym b1 R1) D4.out.g HL1.out 9 (by decide) rfl,by rw[Q4.out.fuse.1];kernel_rfl⟩;have KT1:=Qd (KT.out w4 Q4.out);clear D4 Q4 KT;generalize R1.fuse=clf at *;go_wp2_with (with_reducible first|refine Yp rfl 36 _ rfl ?_|refine Qg 45 ?_|refine Qj 45 ?_|refine Qh 40 ?_);refine Zr.go gb 186 rfl RF4.out.1 underlying36 rfl RF4.out.2 ?_;go_wp2_with fail;refine KT1.out.mono ?_;rintro e w5 ⟨v,rfl,hv,hb⟩;have FZ5:Hid (FzR w gb b1 R1 w5∧BnX X w5 R1 b1∧WdX (fun j=>X j∨j=w.heap.size) w5 v (Z3 b1.fuse)):=Qd ⟨FZ4.out.1.kept hb,FZ4.out.2.below hb,hv.mono (fun k hk=>by rcases hk with hk|hk;(· exact Xe (HXW.out k hk) FZ4.out.1.c.size);rw[hk];exact FZ4.out.1.p.lt)⟩;clear hv hb FZ4 RF4 KT1 xp xph;generalize htk:Uf8 b1.fuse=tb at *;clear htk;go_upto_if 40 with fail
   go_cut [] (fun wx=>∃R2,Hid (FzR w gb (popF b1) R2 wx∧BnX X wx R2 (popF b1)))
   case first =>
    cases tb
    ·have HPF2:Hid (popF b1=b1):=Qd (by rw[HPF.out,if_neg (by decide)]);clear HPF;go_wp2_with fail;go_meet
     case rel=>exact⟨R1,by rw[HPF2.out];exact Qd ⟨FZ5.out.1,FZ5.out.2.1⟩⟩
    ·have HPF2:Hid (popF b1={ b1 with head:=b1.head.set p (b1.head.getD p 0+1),m:=(Uiq b1.m p (Z3 b1.fuse)).1,top:=if (Uiq b1.m p (Z3 b1.fuse)).2=0 then max b1.top (Zd (Z3 b1.fuse)).1.t else b1.top }):=Qd (by rw[HPF.out,if_pos rfl]);clear HPF;have hh0:=HS1.out.head.lo p hp4;have hh1:=HS1.out.head.hi p hp4;have hhw:IntKind.i64.wrap (b1.head.getD p 0+1)=b1.head.getD p 0+1:=by rw[Xf];omega
     have XPH:Hid (∀W,Box W gb 55 (ncs b1 R1)→BnX X W R1 b1→W.cell? ⟨gb,222,none⟩=some (.int .i64 (p:Int))∧W.cell? ⟨gb,178+p,none⟩=some (.int .i64 (b1.head.getD p 0))):=Qd (fun W h1 h2=>⟨by rw[←HPP.out];exact Ue7 h1 h2 HS1.out,U4n h1 h2 HS1.out hp4⟩);have HSH:Hid (∀W R,Box W gb 55 (ncs b1 R)→(Ym b1 R).map List.length=Uf0→Box (W.setCell ⟨gb,178+p,none⟩ (.int .i64 (b1.head.getD p 0+1))) gb 55 (ncs { b1 with head:=b1.head.set p (b1.head.getD p 0+1) } R)):=Qd (fun W R h1 h2=>U01 h1 h2 (by rw[HS1.out.head.len];exact hp4) _);have HS2:Hid (Ya (n+1) { b1 with head:=b1.head.set p (b1.head.getD p 0+1) }):=Qd (by have hm:=HS1.out.mono (m:=n+1) (by omega);exact⟨hm.begun,hm.tail,HS1.out.head.up p,hm.drops,hm.has,hm.lists,hm.lag,hm.ph0,hm.ph4,hm.top,hm.m,hm.x,hm.ver0,hm.ver⟩);have KP:Hid (∀Y W vs v,QsX Y W vs b1.m→(∀j,Y j→j<W.heap.size)→Yx W v (Z3 b1.fuse)→Calls prog 52 #[.agg (Ul b1.m vs).toArray,.int .i64 (p:Int),v] W (U5x Y (Uiq b1.m p (Z3 b1.fuse)) W)):=Qd (fun Y W vs v h1 h2 h3=>Uqu h1 HS1.out.m h2 hp4 h3);have KR:Hid (∀W v,Yx W v (Z3 b1.fuse)→Calls prog 65 #[v] W (Uhq (Zd (Z3 b1.fuse)) W)):=Qd (fun W v h=>Ulk h);have HPZ:Hid (Uaz (Uiq b1.m p (Z3 b1.fuse)).1):=Qd (Uow HS1.out.m hp4 _);generalize Uiq b1.m p (Z3 b1.fuse)=pm at *;obtain⟨m2,ec⟩:=pm;generalize Zd (Z3 b1.fuse)=rs at *;obtain⟨s2,es⟩:=rs;generalize Z3 b1.fuse=ws at *;generalize b1.head.getD p 0=hd at *;dsimp only at *;clear hh0 hh1;have hpl:(p:Int)<4:=by omega
     have hpg:(0:Int)≤(p:Int):=by omega
     go_upto_region 7 with fail
     refine Uk (S:=fun w'=>FzR w gb b1 R1 w'∧BnX X w' R1 b1) 13 13 (by kernel_rfl) rfl (by kernel_rfl) (by decide) ⟨FZ5.out.1.drew,FZ5.out.2.1.chg ((Chg.refl _ _).drew)⟩ (fun hHeld=>?_);refine Qe 0 (.pointer (some ⟨gb,0,none⟩)) (fun w hW=>?_) ?_
     ·have x1:=hW.1.p.cell 0;go_simp
     simp only[Qz];refine Qe 1 (.pointer (some ⟨gb,0,none⟩)) (fun w hW=>?_) ?_
     ·have x1:=hW.1.p.cell 0;go_simp
     simp only[Qz];refine Qn 2 (.pointer (some ⟨gb,0,none⟩)) ?_;refine Qn 3 (.pointer (some ⟨gb,222,none⟩)) ?_;refine Qe 4 (.int .i64 (p:Int)) (fun w hW=>?_) ?_
     ·have x1:=(XPH.out _ hW.1.g hW.2).1;go_simp
     simp only[Qz];refine Qn 5 (.pointer (some ⟨gb,0,none⟩)) ?_;refine Qn 6 (.pointer (some ⟨gb,178,none⟩)) ?_;refine Qn 7 (.pointer (some ⟨gb,178+p,none⟩)) ?_;refine Qe 8 (.int .i64 hd) (fun w hW=>?_) ?_
     ·have x1:=(XPH.out _ hW.1.g hW.2).2;go_simp
     simp only[Qz];refine Qn 9 (.int .i64 (hd+1)) ?_;refine Qn 10 (.pointer (some ⟨gb,0,none⟩)) ?_;refine Qn 11 (.pointer (some ⟨gb,178,none⟩)) ?_;refine Qn 12 (.pointer (some ⟨gb,178+p,none⟩)) ?_;refine Xl (by kernel_rfl) ?_ _;have x1:w5.drew.cell? ⟨gb,178+p,none⟩=some (.int .i64 hd):=(XPH.out _ FZ5.out.1.drew.g (FZ5.out.2.1.chg ((Chg.refl _ _).drew))).2;have f1:=FZ5.out.1.g.drew.frozen (178+p);refine U4 rfl (by rfl) ?_;go_simp;refine Uh6 fun W6 hW6=>?_
     have FZ6:Hid (FzR w gb { b1 with head:=b1.head.set p (hd+1) } R1 W6∧BnX X W6 R1 { b1 with head:=b1.head.set p (hd+1) }∧WdX (fun j=>X j∨j=w.heap.size) W6 v ws):=Qd (by
      have hc:Chg (fun j=>j=gb) w5 W6:=by rw[hW6];exact(Chg.setCell (X:=fun j=>j=gb) (p:=⟨gb,178+p,none⟩) rfl _).drew
      have hB:=(HSH.out _ _ FZ5.out.1.g HL1.out).drew;rw[←hW6] at hB
      exact⟨⟨FZ5.out.1.p.chg hc (by omega),hB,FZ5.out.1.c.trans hc⟩,(FZ5.out.2.1.chg (Uo9 HXG.out hc)).with_ rfl rfl rfl rfl rfl rfl,FZ5.out.2.2.chg (hc.mono (fun k _ e=>Or.inl (by rw[e];exact HXG.out)))⟩)
     have XPH2:Hid (∀W,Box W gb 55 (ncs { b1 with head:=b1.head.set p (hd+1) } R1)→BnX X W R1 { b1 with head:=b1.head.set p (hd+1) }→W.cell? ⟨gb,222,none⟩=some (.int .i64 (p:Int))∧W.rangeAt gb 224 (Ul b1.m R1.vs)):=Qd (fun W h1 h2=>⟨by have:=Ue7 h1 h2 HS2.out;rw[←HPP.out];exact this,by have:=n_m h1 h2 HS2.out;exact this⟩);clear hW6 x1 f1 hHeld FZ5 XPH HSH hhw HL1;generalize b1.head.set p (hd+1)=hds at *;go_upto_region 8 with fail
     go_cut [4,5] (fun c e wx=>∃g vs',c = .pointer (some ⟨g,0,none⟩)∧e = .int .i64 (ec:Int)∧Hid (Box wx g 45 (Ul m2 vs').toArray∧FzR w gb { b1 with head:=hds } R1 wx∧BnX X wx R1 { b1 with head:=hds }∧QsX X wx vs' m2∧WdX (fun j=>X j∨j=w.heap.size) wx v ws))
     case first =>
      refine Xm (S:=fun w'=>FzR w gb { b1 with head:=hds } R1 w'∧BnX X w' R1 { b1 with head:=hds }) (by kernel_rfl) ⟨FZ6.out.1.drew,FZ6.out.2.1.chg ((Chg.refl _ _).drew)⟩ (fun hHeld=>?_);have SM8:Hid ((prog.info? 45).map (·.size)=some (Ul b1.m R1.vs).length):=Qd (by rw[Uu FZ6.out.2.1.q.len FZ6.out.2.1.q.nl];exact Uau);refine Qe 0 (.pointer (some ⟨gb,0,none⟩)) (fun w hW=>?_) ?_
      ·have x1:=hW.1.p.cell 0;go_simp
      simp only[Qz];refine Qn 1 (.pointer (some ⟨gb,0,none⟩)) ?_;refine Qn 2 (.pointer (some ⟨gb,224,none⟩)) ?_;refine Ux (i:=3) (v := .agg (Ul b1.m R1.vs).toArray) rfl rfl (by kernel_rfl) (by kernel_rfl) (by kernel_rfl) (fun _ _ _ h=>h)
       (Xn (by rfl) 45 _ rfl (gb) (224) rfl (Ul b1.m R1.vs) _ (fun _ h=>(XPH2.out _ h.1.g h.2).2) underlying45 rfl SM8.out) hHeld ?_
      simp only[Qz];refine Qe 4 (.pointer (some ⟨gb,0,none⟩)) (fun w hW=>?_) ?_
      ·have x1:=hW.1.p.cell 0;go_simp
      simp only[Qz];refine Qn 5 (.pointer (some ⟨gb,0,none⟩)) ?_;refine Qn 6 (.pointer (some ⟨gb,222,none⟩)) ?_;refine Qe 7 (.int .i64 (p:Int)) (fun w hW=>?_) ?_
      ·have x1:=(XPH2.out _ hW.1.g hW.2).1;go_simp
      simp only[Qz];refine Qn 8 v ?_;refine Ut fun W0 hW0=>?_
      have DB0:Hid (EvR X w W0.heap.size gb { b1 with head:=hds } R1 v ws W0):=Qd (by rw[hW0];exact EvR.start FZ6.out.1.drew (FZ6.out.2.1.chg ((Chg.refl _ _).drew)) (FZ6.out.2.2.chg ((Chg.refl _ _).drew)));replace hHeld:=EvR.held DB0.out;clear hW0 FZ6 SM8;generalize W0.heap.size=N0 at DB0;refine wpAnyH_ready (rs:=[9,13]) (by kernel_rfl) (by simp) ?_;refine Xo rfl (fun KQ hKQ=>?_) (Xo rfl (fun KQ hKQ=>?_) AllReadyH.nil);rotate_right
      focus
       go_simp;refine hKQ.out _ _ (EvR.held (EvR.below DB0.out ((Xb _ _).alloc (Xa _) _))) (fun hHeld0=>?_);clear hKQ KQ hHeld0;refine Ut fun wb1 hwb1=>?_
       have hba:Below W0.heap.size W0 wb1:=by rw[hwb1];exact(Xb _ _).alloc (Xa _) _
       have GZ0:∃Z,Box wb1 W0.heap.size 45 Z∧Z.size=19∧N0≤W0.heap.size:=by rw[hwb1];exact⟨_,Box.new _ _ _,rfl,DB0.out.2.2.2.1⟩
       obtain⟨Z9,GZ0⟩:=GZ0;have hHeld:=EvR.held (EvR.below DB0.out hba);have DB1:=Qd (EvR.below DB0.out hba);have GZ:=Qd GZ0;clear hwb1 hba GZ0 DB0;generalize W0.heap.size=g9 at *;refine Qc 9 fun KQ hKQ=>?_
       go_simp;refine(KP.out (fun j=>X j∨j=g9) _ _ _ (DB1.out.2.1.q.mono (fun j hj=>by rcases hj with hj|hj;(· exact Or.inl hj);rw[hj];exact Or.inr GZ.out.2.2)) (fun j hj=>by rcases hj with hj|hj;(· exact Xe (HXW.out j hj) DB1.out.1.c.size);rw[hj];exact GZ.out.1.lt) DB1.out.2.2.1.1).mono ?_;rintro e wb2 ⟨vs9,rfl,hq,hb⟩;dsimp only[mv,mcs];have QZ:=Qd hq;have DB2:=Qd (EvR.below DB1.out hb);replace GZ:=Qd (Xc (GZ.out.1.kept hb) GZ.out.2);clear hq hb DB1;refine hKQ.out _ _ (EvR.held DB2.out) (fun hHeld=>?_)
      rotate_right
      focus
       go_simp;refine(KP.out X _ _ _ (DB0.out.2.1.q.mono (fun j hj=>Or.inl hj)) (fun j hj=>Xe (HXW.out j hj) DB0.out.1.c.size) DB0.out.2.2.1.1).mono ?_;rintro e wb1 ⟨vs9,rfl,hq,hb⟩;dsimp only[mv,mcs];have QZ:=Qd hq;have DB1:=Qd (EvR.below DB0.out hb);clear hq hb DB0;refine hKQ.out _ _ (EvR.held DB1.out) (fun hHeld=>?_)
      all_goals
       clear hKQ KQ;refine Qn 10 (.tuple #[.agg (Ul m2 vs9).toArray,.int .i64 (ec:Int)]) ?_;refine Qn 11 (.agg (Ul m2 vs9).toArray) ?_;refine Qn 12 (.int .i64 (ec:Int)) ?_
      rotate_right;rotate_right
      focus
       refine Qc 13 fun KQ hKQ=>?_
       go_simp;refine hKQ.out _ _ (EvR.held (EvR.below DB1.out ((Xb _ _).alloc (Xa _) _))) (fun hHeld0=>?_);clear hKQ KQ hHeld0;refine Ut fun wb2 hwb2=>?_
       have hba:Below wb1.heap.size wb1 wb2:=by rw[hwb2];exact(Xb _ _).alloc (Xa _) _
       have GZ0:∃Z,Box wb2 wb1.heap.size 45 Z∧Z.size=19∧N0≤wb1.heap.size:=by rw[hwb2];exact⟨_,Box.new _ _ _,rfl,DB1.out.2.2.2.1⟩
       obtain⟨Z9,GZ0⟩:=GZ0;have hHeld:=EvR.held (EvR.below DB1.out hba);have QZ:=Qd ((QZ.out.low.below hba).mono (Y:=fun j=>X j∨j=wb1.heap.size) (fun j hj=>by rcases hj with hj|hj;(· exact Or.inl hj);rw[hj];exact Or.inr (Xa _)));have DB2:=Qd (EvR.below DB1.out hba);have GZ:=Qd GZ0;clear hwb2 hba GZ0 DB1;generalize wb1.heap.size=g9 at *
      all_goals
       refine Qc 14 fun KQ hKQ=>?_
       rw[if_pos (by rfl)];refine wp_store_mid 45 _ _ rfl g9 0 (Ul m2 vs9).toArray rfl rfl (GZ.out.1.thereAll (by simp[GZ.out.2.1,Uu QZ.out.len QZ.out.nl])) (by rw[List.size_toArray,Uu QZ.out.len QZ.out.nl];exact Uau) (Uah QZ.out) ?_;refine Uh6 fun W8 hW8=>?_
       have FZ8:Hid (Box W8 g9 45 (Ul m2 vs9).toArray∧FzR w gb { b1 with head:=hds } R1 W8∧BnX X W8 R1 { b1 with head:=hds }∧QsX X W8 vs9 m2∧WdX (fun j=>X j∨j=w.heap.size) W8 v ws):=Qd (by
        have hc:Chg (fun j=>j=g9) wb2 W8:=by rw[hW8];exact Chg.setCells (X:=fun j=>j=g9) rfl _ _
        have hbx:Box W8 g9 45 (Ul m2 vs9).toArray:=by rw[hW8];exact GZ.out.1.setCells_all (by simp[GZ.out.2.1,Uu QZ.out.len QZ.out.nl])
        have hf:=EvR.fin DB2.out GZ.out.2.2 hgl hc
        exact⟨hbx,hf.1,hf.2.1,(QZ.out.chg (hc.mono (fun k _ e=>Or.inr e))).mono (fun j hj=>Or.inl hj),hf.2.2⟩)
       clear hW8 DB2 QZ GZ;go_simp;refine hKQ.out _ _ ⟨FZ8.out.2.1,FZ8.out.2.2.1⟩ (fun hHeld=>?_);clear hKQ KQ;refine Qn 15 (.int .i64 (ec:Int)) ?_;refine Xl (by kernel_rfl) ?_ _;go_wp2_with fail;go_meet
       case rel=>exact⟨g9,vs9,rfl,rfl,FZ8⟩
     case rest =>
      obtain⟨g9,vs9,rfl,rfl,FZ9⟩:=hcut;have SM9:Hid ((prog.info? 45).map (·.size)=some (Ul m2 vs9).toArray.size∧(prog.info? 45).map (·.size)=some (Ul m2 vs9).length∧(Ul m2 vs9).toArray.all (·.oneCell')=true):=Qd ⟨by rw[List.size_toArray,Uu FZ9.out.2.2.2.1.len FZ9.out.2.2.2.1.nl];exact Uau,by rw[Uu FZ9.out.2.2.2.1.len FZ9.out.2.2.2.1.nl];exact Uau,Uah FZ9.out.2.2.2.1⟩;have HM9:=Qd (U4o (m':=m2) (vs':=vs9) FZ9.out.2.1.g (FZ9.out.2.2.1.lens HS2.out) (Uu FZ9.out.2.2.2.1.len FZ9.out.2.2.2.1.nl));have xp:=FZ9.out.2.1.p.cell 0;go_wp2_with (with_reducible first|refine Yp rfl 36 _ rfl ?_|refine Qg 45 ?_|refine Qj 45 ?_|refine Qh 40 ?_);refine Uo.go g9 rfl FZ9.out.1 underlying45 rfl SM9.out.1 ?_;go_wp2_with (with_reducible first|refine Yp rfl 36 _ rfl ?_|refine Qg 45 ?_|refine Qj 45 ?_|refine Qh 40 ?_);refine Uai.go gb 224 (cs:=Ul m2 vs9) rfl rfl HM9.out.1 SM9.out.2.1 SM9.out.2.2 ?_;go_upto_if 72 with fail
      refine Uq fun W9 hW9=>?_
      have HS3:Hid (Ya (n+1) { b1 with head:=hds,m:=m2 }):=Qd ⟨HS2.out.begun,HS2.out.tail,HS2.out.head,HS2.out.drops,HS2.out.has,HS2.out.lists,HS2.out.lag,HS2.out.ph0,HS2.out.ph4,HS2.out.top,HPZ.out,HS2.out.x,HS2.out.ver0,HS2.out.ver⟩
      have FZ10:Hid (FzR w gb { b1 with head:=hds,m:=m2 } { R1 with vs:=vs9 } W9∧BnX X W9 { R1 with vs:=vs9 } { b1 with head:=hds,m:=m2 }∧WdX (fun j=>X j∨j=w.heap.size) W9 v ws):=Qd (by
       have hc:Chg (fun j=>j=gb) wc W9:=by rw[hW9];exact Chg.setCells (X:=fun j=>j=gb) rfl _ _
       have hB:=HM9.out.2;rw[←hW9] at hB
       exact⟨⟨FZ9.out.2.1.p.chg hc (by omega),hB,FZ9.out.2.1.c.trans hc⟩,(FZ9.out.2.2.1.chg (Uo9 HXG.out hc)).withM (FZ9.out.2.2.2.1.chg (Uo9 HXG.out hc)),FZ9.out.2.2.2.2.chg (hc.mono (fun k _ e=>Or.inl (by rw[e];exact HXG.out)))⟩)
      clear hW9 xp FZ9 SM9 HM9 HS2 XPH2 KP HPZ;by_cases he:ec=0
      ·have he2:(((ec:Int))==0)=true:=by simp[he]
       have HE:Hid (popF b1={ b1 with head:=hds,m:=m2,top:=max b1.top s2.t }):=Qd (by rw[HPF2.out,if_pos he]);clear he HPF2;have KR1:=Qd (KR.out _ _ FZ10.out.2.2.1);have HMT:Hid (∀W R,Box W gb 55 (ncs { b1 with head:=hds,m:=m2 } R)→(Ym { b1 with head:=hds,m:=m2 } R).map List.length=Uf0→Box (W.setCell ⟨gb,223,none⟩ (.int .i64 (max b1.top s2.t))) gb 55 (ncs { b1 with head:=hds,m:=m2,top:=max b1.top s2.t } R)):=Qd (fun W R h1 h2=>by have:=U3h h1 h2 (max b1.top s2.t);exact this);have XT:Hid (∀W,Box W gb 55 (ncs { b1 with head:=hds,m:=m2 } { R1 with vs:=vs9 })→BnX X W { R1 with vs:=vs9 } { b1 with head:=hds,m:=m2 }→W.cell? ⟨gb,223,none⟩=some (.int .i64 b1.top)):=Qd (fun W h1 h2=>by have:=U76 h1 h2 HS3.out;exact this);have XL:=Qd (FZ10.out.2.1.lens HS3.out);have SS:Hid ((prog.info? 40).map (·.size)=some s2.cells.size∧s2.cells.all (·.oneCell')=true):=Qd ⟨Ye,by simp[Smp.cells,Value.oneCell']⟩;clear KR HS3;go_wp2_with fail;refine KR1.out.mono ?_;rintro e w10 ⟨rfl,hb⟩;have FZ11:Hid (FzR w gb { b1 with head:=hds,m:=m2 } { R1 with vs:=vs9 } w10∧BnX X w10 { R1 with vs:=vs9 } { b1 with head:=hds,m:=m2 }):=Qd ⟨FZ10.out.1.kept hb,FZ10.out.2.1.below hb⟩;clear hb FZ10 KR1;dsimp only[Udr];go_wp2_with (with_reducible first|refine Yp rfl 36 _ rfl ?_|refine Qg 45 ?_|refine Qj 45 ?_|refine Qh 40 ?_);refine Uf.go w10.heap.size rfl rfl (Box.new _ _ _) SS.out.1 rfl SS.out.2 ?_;go_upto_region 12 with fail
       refine Uq fun W11 hW11=>?_
       have hb11:Below w10.heap.size w10 W11:=by rw[hW11];exact Uc ((Xb _ w10).alloc (Xa _) _) (Xa _) _
       have FZ12:Hid (FzR w gb { b1 with head:=hds,m:=m2 } { R1 with vs:=vs9 } W11∧BnX X W11 { R1 with vs:=vs9 } { b1 with head:=hds,m:=m2 }∧Box W11 w10.heap.size 40 s2.cells):=Qd ⟨FZ11.out.1.kept hb11,FZ11.out.2.below hb11,by rw[hW11];exact(Box.new _ _ _).row _⟩;clear hW11 hb11 FZ11;generalize w10.heap.size=g6 at *;have XS:Hid (∀W,Box W g6 40 s2.cells→W.cell? ⟨g6,0,none⟩=some (.int .i64 s2.t)):=Qd (fun W h=>h.cell 0);refine Uk (S:=fun w'=>FzR w gb { b1 with head:=hds,m:=m2 } { R1 with vs:=vs9 } w'∧BnX X w' { R1 with vs:=vs9 } { b1 with head:=hds,m:=m2 }∧Box w' g6 40 s2.cells) 10 10 (by kernel_rfl) rfl (by kernel_rfl) (by decide) ⟨FZ12.out.1.drew,FZ12.out.2.1.chg ((Chg.refl _ _).drew),FZ12.out.2.2.drew⟩ (fun hHeld=>?_);refine Qe 0 (.pointer (some ⟨gb,0,none⟩)) (fun w hW=>?_) ?_
       ·have x1:=hW.1.p.cell 0;go_simp
       simp only[Qz];refine Qe 1 (.pointer (some ⟨gb,0,none⟩)) (fun w hW=>?_) ?_
       ·have x1:=hW.1.p.cell 0;go_simp
       simp only[Qz];refine Qn 2 (.pointer (some ⟨gb,0,none⟩)) ?_;refine Qn 3 (.pointer (some ⟨gb,223,none⟩)) ?_;refine Qe 4 (.int .i64 b1.top) (fun w hW=>?_) ?_
       ·have x1:=XT.out _ hW.1.g hW.2.1;go_simp
       simp only[Qz];refine Qn 5 (.pointer (some ⟨g6,0,none⟩)) ?_;refine Qe 6 (.int .i64 s2.t) (fun w hW=>?_) ?_
       ·have x1:=XS.out _ hW.2.2;go_simp
       simp only[Qz];refine Qn 7 (.int .i64 (max b1.top s2.t)) ?_;refine Qn 8 (.pointer (some ⟨gb,0,none⟩)) ?_;refine Qn 9 (.pointer (some ⟨gb,223,none⟩)) ?_;refine Xl (by kernel_rfl) ?_ _;have x1:=XT.out _ FZ12.out.1.drew.g (FZ12.out.2.1.chg ((Chg.refl _ _).drew));have f1:=FZ12.out.1.g.drew.frozen 223;refine U4 rfl (by rfl) ?_;go_simp;refine Uh6 fun W13 hW13=>?_
       have FZ13:Hid (FzR w gb (popF b1) { R1 with vs:=vs9 } W13∧BnX X W13 { R1 with vs:=vs9 } (popF b1)):=Qd (by
        have hc:Chg (fun j=>j=gb) W11 W13:=by rw[hW13];exact(Chg.setCell (X:=fun j=>j=gb) (p:=⟨gb,223,none⟩) rfl _).drew
        have hB:=(HMT.out _ _ FZ12.out.1.g XL.out).drew;rw[←hW13] at hB;rw[HE.out]
        exact⟨⟨FZ12.out.1.p.chg hc (by omega),hB,FZ12.out.1.c.trans hc⟩,(FZ12.out.2.1.chg (Uo9 HXG.out hc)).with_ rfl rfl rfl rfl rfl rfl⟩)
       clear hW13 x1 f1 hHeld FZ12;go_wp2_with fail;go_meet
       case rel=>exact⟨_,FZ13⟩
      ·have he2:(((ec:Int))==0)=false:=by simp;omega
       have HE:Hid (popF b1={ b1 with head:=hds,m:=m2 }):=Qd (by rw[HPF2.out,if_neg he]);clear he HPF2 KR;go_wp2_with fail;go_meet
       case rel=>exact⟨{ R1 with vs:=vs9 },Qd (by rw[HE.out];exact⟨FZ10.out.1,FZ10.out.2.1⟩)⟩
   case rest =>
    obtain⟨R2,FZ⟩:=hcut;have HSQ:Hid (Ya (n+1) (phF (popF b1))):=Qd (HSP.out.phF (by rw[Udv,HPP.out];omega));have HP5:Hid ((popF b1).phase=(p:Int)):=Qd (by rw[Udv];exact HPP.out);have HPQ:Hid ((phF (popF b1)).phase=(p:Int)+1):=Qd (by show(popF b1).phase+1=_;rw[HP5.out]);have HQ5:Hid (phF (popF b1)={ popF b1 with phase:=(p:Int)+1 }):=Qd (by unfold phF;rw[HP5.out]);have xp:=FZ.out.1.p.cell 0;have xph:wc.cell? ⟨gb,222,none⟩=some (.int .i64 (p:Int)):=by rw[←HP5.out];exact Ue7 FZ.out.1.g FZ.out.2 HSP.out
    have fp:=FZ.out.1.g.frozen 222;have hpw:IntKind.i64.wrap ((p:Int)+1)=(p:Int)+1:=by rw[Xf];omega
    have HMP:Hid (Box (wc.setCell ⟨gb,222,none⟩ (.int .i64 ((p:Int)+1))) gb 55 (ncs (phF (popF b1)) R2)):=Qd (by rw[HQ5.out];exact Unq FZ.out.1.g (FZ.out.2.lens HSP.out) _);clear HPF;have HXQ:Hid (∀{W:World} {R:Rep},BnX X W R (popF b1)→BnX X W R (phF (popF b1))):=Qd (fun h=>h.with_ rfl rfl rfl rfl rfl rfl);clear HSP HP5 HQ5 HPP;generalize phF (popF b1)=bq at *;go_upto_region 14 with fail
    refine Uq fun W14 hW14=>?_
    have FZ14:Hid (FzR w gb bq R2 W14∧BnX X W14 R2 bq):=Qd (by
     have hc:Chg (fun j=>j=gb) wc W14:=by rw[hW14];exact Chg.setCell (X:=fun j=>j=gb) (p:=⟨gb,222,none⟩) rfl _
     have hB:=HMP.out;rw[←hW14] at hB
     exact⟨⟨FZ.out.1.p.chg hc (by omega),hB,FZ.out.1.c.trans hc⟩,HXQ.out (FZ.out.2.chg (Uo9 HXG.out hc))⟩)
    clear hW14 xp xph fp hpw HMP FZ HXQ;have xp:=FZ14.out.1.p.cell 0;have xph:W14.cell? ⟨gb,222,none⟩=some (.int .i64 ((p:Int)+1)):=by rw[←HPQ.out];exact Ue7 FZ14.out.1.g FZ14.out.2 HSQ.out
    by_cases hq:p=3
    ·have HFZ:Hid (fuseN b={ bq with m:=(U00 bq).1,x:=Uf3 bq.x bq.cals (U00 bq).2 }):=Qd (by rw[HF2.out];unfold mergeF;rw[if_pos (by rw[HPQ.out,hq];rfl)]);subst hq;have ht0:bq.top-bq.lag≤1099511627776:=by have:=HSQ.out.top;have:=HSQ.out.lag;unfold Ua0 at *;omega
     have htw:IntKind.i64.wrap (bq.top-bq.lag)=bq.top-bq.lag:=by have:=HSQ.out.top;have:=HSQ.out.lag;unfold Ua0 at *;rw[Xf];omega
     have hs2:Uaz (Ugl bq.m (bq.top-bq.lag)):=Ue1 HSQ.out.m ht0;have KTL:Hid (∀Y W vs1,QsX Y W vs1 bq.m→Calls prog 54 #[.agg (Ul bq.m vs1).toArray,.int .i64 (bq.top-bq.lag)] W (U0g Y (Ugl bq.m (bq.top-bq.lag)) W)):=Qd (fun Y W vs1 hq=>Uni hq HSQ.out.m _ ht0);have KA:Hid (∀Y W vs2,QsX Y W vs2 (Ugl bq.m (bq.top-bq.lag))→(∀j,Y j→j<W.heap.size)→Calls prog 53 #[.agg (Ul (Ugl bq.m (bq.top-bq.lag)) vs2).toArray] W (Uup Y (U00 bq) W)):=Qd (fun Y W vs2 hq hY=>Uq2 hq hs2 hY)
     have HLL:Hid ((U00 bq).2.length≤1000):=Qd (by
      have h1:=U0p (Zh (Ugl bq.m (bq.top-bq.lag))+1) (Ugl bq.m (bq.top-bq.lag)) [] hs2;have h2:Zh (Ugl bq.m (bq.top-bq.lag))≤64:=by
       have h0:=(hs2.row 0 (by omega)).1;have h1:=(hs2.row 1 (by omega)).1;have h2:=(hs2.row 2 (by omega)).1;have h3:=(hs2.row 3 (by omega)).1;unfold Zh;omega
      unfold U00;simp only[List.length_nil] at h1
      omega)
     have KF:Hid (∀W v,SmX X W v (U00 bq).2→Calls prog 55 #[.agg bq.x.list.toArray,.agg bq.cals.list.toArray,v] W (Ub (stv (Uf3 bq.x bq.cals (U00 bq).2)) W)):=Qd (fun W v hv=>Uqq bq.x bq.cals hv HLL.out);have XQ:Hid (∀{W:World},Box W gb 55 (ncs bq R2)→BnX X W R2 bq→W.rangeAt gb 224 (Ul bq.m R2.vs)∧W.cell? ⟨gb,223,none⟩=some (.int .i64 bq.top)∧W.cell? ⟨gb,25,none⟩=some (.int .i64 bq.lag)∧W.rangeAt gb 243 bq.x.list∧W.rangeAt gb 1 bq.cals.list):=Qd (fun h1 h2=>⟨n_m h1 h2 HSQ.out,U76 h1 h2 HSQ.out,U8w h1 h2 HSQ.out,n_x h1 h2 HSQ.out,U4m h1 h2 HSQ.out⟩);have HOM:Hid (Uaz (U00 bq).1):=Qd (Uoy _ _ _ hs2);clear ht0 hs2 HLL;generalize U00 bq=mo at *;obtain⟨m3,l3⟩:=mo;dsimp only at *;generalize Ugl bq.m (bq.top-bq.lag)=mt at *;generalize Uf3 bq.x bq.cals l3=x9 at *;go_upto_region 15 with fail
     clear xp xph;go_cut [8,9] (fun c l wx=>∃g vs' l',c = .pointer (some ⟨g,0,none⟩)∧l'=l∧Hid (Box wx g 45 (Ul m3 vs').toArray∧FzR w gb bq R2 wx∧BnX X wx R2 bq∧QsX X wx vs' m3∧SmX X wx l' l3))
     case first =>
      refine Xm (S:=fun w'=>FzR w gb bq R2 w'∧BnX X w' R2 bq) (by kernel_rfl) ⟨FZ14.out.1.drew,FZ14.out.2.chg ((Chg.refl _ _).drew)⟩ (fun hHeld=>?_);have SM8:Hid ((prog.info? 45).map (·.size)=some (Ul bq.m R2.vs).length):=Qd (by rw[Uu FZ14.out.2.q.len FZ14.out.2.q.nl];exact Uau);refine Qe 0 (.pointer (some ⟨gb,0,none⟩)) (fun w hW=>?_) ?_
      ·have x1:=hW.1.p.cell 0;go_simp
      simp only[Qz];refine Qn 1 (.pointer (some ⟨gb,0,none⟩)) ?_;refine Qn 2 (.pointer (some ⟨gb,224,none⟩)) ?_;refine Ux (i:=3) (v := .agg (Ul bq.m R2.vs).toArray) rfl rfl (by kernel_rfl) (by kernel_rfl) (by kernel_rfl) (fun _ _ _ h=>h)
       (Xn (by rfl) 45 _ rfl (gb) (224) rfl (Ul bq.m R2.vs) _ (fun _ h=>(XQ.out h.1.g h.2).1) underlying45 rfl SM8.out) hHeld ?_
      simp only[Qz];refine Qe 4 (.pointer (some ⟨gb,0,none⟩)) (fun w hW=>?_) ?_
      ·have x1:=hW.1.p.cell 0;go_simp
      simp only[Qz];refine Qn 5 (.pointer (some ⟨gb,0,none⟩)) ?_;refine Qn 6 (.pointer (some ⟨gb,223,none⟩)) ?_;refine Qe 7 (.int .i64 bq.top) (fun w hW=>?_) ?_
      ·have x1:=(XQ.out hW.1.g hW.2).2.1;go_simp
      simp only[Qz];refine Qe 8 (.pointer (some ⟨gb,0,none⟩)) (fun w hW=>?_) ?_
      ·have x1:=hW.1.p.cell 0;go_simp
      simp only[Qz];refine Qn 9 (.pointer (some ⟨gb,0,none⟩)) ?_;refine Qn 10 (.pointer (some ⟨gb,25,none⟩)) ?_;refine Qe 11 (.int .i64 bq.lag) (fun w hW=>?_) ?_
      ·have x1:=(XQ.out hW.1.g hW.2).2.2.1;go_simp
      simp only[Qz];refine Qn 12 (.int .i64 (bq.top-bq.lag)) ?_;refine Ut fun W0 hW0=>?_
      have DB0:Hid (EvR X w W0.heap.size gb bq R2 (.slice none 0 0) [] W0):=Qd (by rw[hW0];exact EvR.start FZ14.out.1.drew (FZ14.out.2.chg ((Chg.refl _ _).drew)) ⟨Yx.nil _,Ud0.nil _ _ _⟩);replace hHeld:=EvR.held DB0.out;clear hW0 FZ14 SM8;generalize W0.heap.size=N0 at DB0;refine wpAnyH_ready (rs:=[13,18]) (by kernel_rfl) (by simp) ?_;refine Xo rfl (fun KQ hKQ=>?_) (Xo rfl (fun KQ hKQ=>?_) AllReadyH.nil);rotate_right
      focus
       go_simp;refine hKQ.out _ _ (EvR.held (EvR.below DB0.out ((Xb _ _).alloc (Xa _) _))) (fun hHeld0=>?_);clear hKQ KQ hHeld0;refine Ut fun wb1 hwb1=>?_
       have hba:Below W0.heap.size W0 wb1:=by rw[hwb1];exact(Xb _ _).alloc (Xa _) _
       have GZ0:∃Z,Box wb1 W0.heap.size 45 Z∧Z.size=19∧N0≤W0.heap.size:=by rw[hwb1];exact⟨_,Box.new _ _ _,rfl,DB0.out.2.2.2.1⟩
       obtain⟨Z9,GZ0⟩:=GZ0;have hHeld:=EvR.held (EvR.below DB0.out hba);have DB1:=Qd (EvR.below DB0.out hba);have GZ:=Qd GZ0;clear hwb1 hba GZ0 DB0;generalize W0.heap.size=g9 at *;refine Qc 13 fun KQ hKQ=>?_
       go_simp;refine(KTL.out (fun j=>X j∨j=g9) _ _ (DB1.out.2.1.q.mono (fun j hj=>by rcases hj with hj|hj;(· exact Or.inl hj);rw[hj];exact Or.inr GZ.out.2.2))).mono ?_;rintro e wb2 ⟨vs7,rfl,hq,hb⟩;dsimp only[mv,mcs];have QZ:=Qd hq;have DB2:=Qd (EvR.below DB1.out hb);replace GZ:=Qd (Xc (GZ.out.1.kept hb) GZ.out.2);clear hq hb DB1;refine hKQ.out _ _ (EvR.held DB2.out) (fun hHeld=>?_);clear hKQ KQ;refine Qc 14 fun KQ hKQ=>?_
       go_simp;refine(KA.out (fun j=>X j∨j=g9) _ _ QZ.out (fun j hj=>by rcases hj with hj|hj;(· exact Xe (HXW.out j hj) DB2.out.1.c.size);rw[hj];exact GZ.out.1.lt)).mono ?_;rintro e wb3 ⟨vs9,l9,rfl,hq,hsm,hb⟩;dsimp only[mv,mcs];replace QZ:=Qd hq;have SZ:=Qd hsm;have DB3:=Qd (EvR.below DB2.out hb);replace GZ:=Qd (Xc (GZ.out.1.kept hb) GZ.out.2);clear hq hb hsm DB2;refine hKQ.out _ _ (EvR.held DB3.out) (fun hHeld=>?_);clear hKQ KQ;refine Qn 15 (.tuple #[.agg (Ul m3 vs9).toArray,l9]) ?_;refine Qn 16 (.agg (Ul m3 vs9).toArray) ?_;refine Qn 17 l9 ?_
      rotate_right
      focus
       go_simp;refine(KTL.out X _ _ (DB0.out.2.1.q.mono (fun j hj=>Or.inl hj))).mono ?_;rintro e wb1 ⟨vs7,rfl,hq,hb⟩;dsimp only[mv,mcs];have QZ:=Qd hq;have DB1:=Qd (EvR.below DB0.out hb);clear hq hb DB0;refine hKQ.out _ _ (EvR.held DB1.out) (fun hHeld=>?_);clear hKQ KQ;refine wpAnyH_ready (rs:=[14,18]) (by kernel_rfl) (by simp) ?_;refine Xo rfl (fun KQ hKQ=>?_) (Xo rfl (fun KQ hKQ=>?_) AllReadyH.nil);rotate_right
       focus
        go_simp;refine hKQ.out _ _ (EvR.held (EvR.below DB1.out ((Xb _ _).alloc (Xa _) _))) (fun hHeld0=>?_);clear hKQ KQ hHeld0;refine Ut fun wb2 hwb2=>?_
        have hba:Below wb1.heap.size wb1 wb2:=by rw[hwb2];exact(Xb _ _).alloc (Xa _) _
        have GZ0:∃Z,Box wb2 wb1.heap.size 45 Z∧Z.size=19∧N0≤wb1.heap.size:=by rw[hwb2];exact⟨_,Box.new _ _ _,rfl,DB1.out.2.2.2.1⟩
        obtain⟨Z9,GZ0⟩:=GZ0;have hHeld:=EvR.held (EvR.below DB1.out hba);have QZ:=Qd ((QZ.out.low.below hba).mono (Y:=fun j=>X j∨j=wb1.heap.size) (fun j hj=>by rcases hj with hj|hj;(· exact Or.inl hj);rw[hj];exact Or.inr (Xa _)));have DB2:=Qd (EvR.below DB1.out hba);have GZ:=Qd GZ0;clear hwb2 hba GZ0 DB1;generalize wb1.heap.size=g9 at *;refine Qc 14 fun KQ hKQ=>?_
        go_simp;refine(KA.out (fun j=>X j∨j=g9) _ _ QZ.out (fun j hj=>by rcases hj with hj|hj;(· exact Xe (HXW.out j hj) DB2.out.1.c.size);rw[hj];exact GZ.out.1.lt)).mono ?_;rintro e wb3 ⟨vs9,l9,rfl,hq,hsm,hb⟩;dsimp only[mv,mcs];replace QZ:=Qd hq;have SZ:=Qd hsm;have DB3:=Qd (EvR.below DB2.out hb);replace GZ:=Qd (Xc (GZ.out.1.kept hb) GZ.out.2);clear hq hb hsm DB2;refine hKQ.out _ _ (EvR.held DB3.out) (fun hHeld=>?_)
       rotate_right
       focus
        go_simp;refine(KA.out X _ _ QZ.out (fun j hj=>Xe (HXW.out j hj) DB1.out.1.c.size)).mono ?_;rintro e wb2 ⟨vs9,l9,rfl,hq,hsm,hb⟩;dsimp only[mv,mcs];replace QZ:=Qd hq;have SZ:=Qd hsm;have DB2:=Qd (EvR.below DB1.out hb);clear hq hb hsm DB1;refine hKQ.out _ _ (EvR.held DB2.out) (fun hHeld=>?_)
       all_goals
        clear hKQ KQ;refine Qn 15 (.tuple #[.agg (Ul m3 vs9).toArray,l9]) ?_;refine Qn 16 (.agg (Ul m3 vs9).toArray) ?_;refine Qn 17 l9 ?_
       rotate_right;rotate_right
       focus
        refine Qc 18 fun KQ hKQ=>?_
        go_simp;refine hKQ.out _ _ (EvR.held (EvR.below DB2.out ((Xb _ _).alloc (Xa _) _))) (fun hHeld0=>?_);clear hKQ KQ hHeld0;refine Ut fun wb3 hwb3=>?_
        have hba:Below wb2.heap.size wb2 wb3:=by rw[hwb3];exact(Xb _ _).alloc (Xa _) _
        have GZ0:∃Z,Box wb3 wb2.heap.size 45 Z∧Z.size=19∧N0≤wb2.heap.size:=by rw[hwb3];exact⟨_,Box.new _ _ _,rfl,DB2.out.2.2.2.1⟩
        obtain⟨Z9,GZ0⟩:=GZ0;have hHeld:=EvR.held (EvR.below DB2.out hba);have QZ:=Qd ((QZ.out.low.below hba).mono (Y:=fun j=>X j∨j=wb2.heap.size) (fun j hj=>by rcases hj with hj|hj;(· exact Or.inl hj);rw[hj];exact Or.inr (Xa _)));have SZ:=Qd ((SZ.out.low.below hba).mono (Y:=fun j=>X j∨j=wb2.heap.size) (fun j hj=>by rcases hj with hj|hj;(· exact Or.inl hj);rw[hj];exact Or.inr (Xa _)));have DB3:=Qd (EvR.below DB2.out hba);have GZ:=Qd GZ0;clear hwb3 hba GZ0 DB2;generalize wb2.heap.size=g9 at *
      all_goals
       refine Qc 19 fun KQ hKQ=>?_
       rw[if_pos (by rfl)];refine wp_store_mid 45 _ _ rfl g9 0 (Ul m3 vs9).toArray rfl rfl (GZ.out.1.thereAll (by simp[GZ.out.2.1,Uu QZ.out.len QZ.out.nl])) (by rw[List.size_toArray,Uu QZ.out.len QZ.out.nl];exact Uau) (Uah QZ.out) ?_;refine Uh6 fun W8 hW8=>?_
       have FZ8:Hid (Box W8 g9 45 (Ul m3 vs9).toArray∧FzR w gb bq R2 W8∧BnX X W8 R2 bq∧QsX X W8 vs9 m3∧SmX X W8 l9 l3):=Qd (by
        have hc:Chg (fun j=>j=g9) wb3 W8:=by rw[hW8];exact Chg.setCells (X:=fun j=>j=g9) rfl _ _
        have hbx:Box W8 g9 45 (Ul m3 vs9).toArray:=by rw[hW8];exact GZ.out.1.setCells_all (by simp[GZ.out.2.1,Uu QZ.out.len QZ.out.nl])
        have hf:=EvR.fin DB3.out GZ.out.2.2 hgl hc
        exact⟨hbx,hf.1,hf.2.1,(QZ.out.chg (hc.mono (fun k _ e=>Or.inr e))).mono (fun j hj=>Or.inl hj),(SZ.out.chg (hc.mono (fun k _ e=>Or.inr e))).mono (fun j hj=>Or.inl hj)⟩)
       clear hW8 DB3 QZ GZ SZ;go_simp;refine hKQ.out _ _ ⟨FZ8.out.2.1,FZ8.out.2.2.1⟩ (fun hHeld=>?_);clear hKQ KQ;refine Qn 20 l9 ?_;refine Xl (by kernel_rfl) ?_ _;go_wp2_with fail;go_meet
       case rel=>exact⟨g9,vs9,l9,rfl,rfl,FZ8⟩
     case rest =>
      obtain⟨g8,vs8,l8,rfl,rfl,FZ⟩:=hcut;have hne:g8≠gb:=by
       rintro rfl;have h1:=FZ.out.1;have h2:=FZ.out.2.1.g;unfold Box at h1 h2;rw[h1] at h2;simp at h2
      have SM:Hid ((prog.info? 45).map (·.size)=some (Ul m3 vs8).length∧(Ul m3 vs8).toArray.all (·.oneCell')=true):=Qd ⟨by rw[Uu FZ.out.2.2.2.1.len FZ.out.2.2.2.1.nl];exact Uau,Uah FZ.out.2.2.2.1⟩;have SX:Hid ((prog.info? 52).map (·.size)=some bq.x.list.length):=Qd Yj;have SC:Hid ((prog.info? 27).map (·.size)=some bq.cals.list.length):=Qd Ua4;have XR:=Qd (XQ.out FZ.out.2.1.g FZ.out.2.2.1).2.2.2;have HS4:Hid (Ya (n+1) { bq with m:=m3 }):=Qd ⟨HSQ.out.begun,HSQ.out.tail,HSQ.out.head,HSQ.out.drops,HSQ.out.has,HSQ.out.lists,HSQ.out.lag,HSQ.out.ph0,HSQ.out.ph4,HSQ.out.top,HOM.out,HSQ.out.x,HSQ.out.ver0,HSQ.out.ver⟩;have HM4:Hid (∀{W:World},Box W gb 55 (ncs bq R2)→BnX X W R2 bq→W.there gb 224 (Ul m3 vs8).toArray.size∧Box (W.setCells gb 224 (Ul m3 vs8)) gb 55 (ncs { bq with m:=m3 } { R2 with vs:=vs8 })):=Qd (fun h1 h2=>by have:=U4o (m':=m3) (vs':=vs8) h1 (h2.lens HSQ.out) (Uu FZ.out.2.2.2.1.len FZ.out.2.2.2.1.nl);simpa using this);have XQ4:Hid (∀{W:World},Box W gb 55 (ncs { bq with m:=m3 } { R2 with vs:=vs8 })→BnX X W { R2 with vs:=vs8 } { bq with m:=m3 }→W.rangeAt gb 243 bq.x.list∧W.rangeAt gb 1 bq.cals.list∧W.there gb 243 x9.cells.size∧Box (W.setCells gb 243 x9.list) gb 55 (ncs { bq with m:=m3,x:=x9 } { R2 with vs:=vs8 })):=Qd (fun h1 h2=>⟨by have:=n_x h1 h2 HS4.out;exact this,by have:=U4m h1 h2 HS4.out;exact this,U77 h1 (h2.lens HS4.out) x9⟩);go_upto_region 16 with fail
      refine Uk (S:=fun w'=>Box w' w.heap.size 99 #[.pointer (some ⟨gb,0,none⟩)]∧Box w' g8 45 (Ul m3 vs8).toArray∧w'.rangeAt gb 243 bq.x.list∧w'.rangeAt gb 1 bq.cals.list) 18 18 (by kernel_rfl) rfl (by kernel_rfl) (by decide) ⟨FZ.out.2.1.p.drew,FZ.out.1.drew,XR.out.1,XR.out.2⟩ (fun hHeld=>?_);refine Qe 0 (.pointer (some ⟨gb,0,none⟩)) (fun w hW=>?_) ?_
      ·have x1:=hW.1.cell 0;go_simp
      simp only[Qz];refine Qe 1 (.pointer (some ⟨gb,0,none⟩)) (fun w hW=>?_) ?_
      ·have x1:=hW.1.cell 0;go_simp
      simp only[Qz];refine Ux (i:=2) (v := .agg (Ul m3 vs8).toArray) rfl rfl (by kernel_rfl) (by kernel_rfl) (by kernel_rfl) (fun _ _ _ h=>h)
       (Xn (by rfl) 45 _ rfl (g8) (0) rfl (Ul m3 vs8) _ (fun _ h=>h.2.1.rangeA) underlying45 rfl SM.out.1) hHeld ?_
      simp only[Qz];refine Qe 3 (.pointer (some ⟨gb,0,none⟩)) (fun w hW=>?_) ?_
      ·have x1:=hW.1.cell 0;go_simp
      simp only[Qz];refine Qn 4 (.pointer (some ⟨gb,0,none⟩)) ?_;refine Qn 5 (.pointer (some ⟨gb,243,none⟩)) ?_;refine Ux (i:=6) (v := .agg (bq.x.list).toArray) rfl rfl (by kernel_rfl) (by kernel_rfl) (by kernel_rfl) (fun _ _ _ h=>h)
       (Xn (by rfl) 52 _ rfl (gb) (243) rfl (bq.x.list) _ (fun _ h=>h.2.2.1) underlying52 rfl SX.out) hHeld ?_
      simp only[Qz];refine Qe 7 (.pointer (some ⟨gb,0,none⟩)) (fun w hW=>?_) ?_
      ·have x1:=hW.1.cell 0;go_simp
      simp only[Qz];refine Qn 8 (.pointer (some ⟨gb,0,none⟩)) ?_;refine Qn 9 (.pointer (some ⟨gb,1,none⟩)) ?_;refine Ux (i:=10) (v := .agg (bq.cals.list).toArray) rfl rfl (by kernel_rfl) (by kernel_rfl) (by kernel_rfl) (fun _ _ _ h=>h)
       (Xn (by rfl) 27 _ rfl (gb) (1) rfl (bq.cals.list) _ (fun _ h=>h.2.2.2) underlying27 rfl SC.out) hHeld ?_
      simp only[Qz];refine Qn 11 l8 ?_;refine Ut fun WD hWD=>?_
      have DD:Hid (FzR w gb bq R2 WD∧Box WD g8 45 (Ul m3 vs8).toArray∧BnX X WD R2 bq∧QsX X WD vs8 m3∧SmX X WD l8 l3):=Qd (by rw[hWD];exact⟨FZ.out.2.1.drew,FZ.out.1.drew,FZ.out.2.2.1.chg ((Chg.refl _ _).drew),FZ.out.2.2.2.1.chg ((Chg.refl _ _).drew),FZ.out.2.2.2.2.chg ((Chg.refl _ _).drew)⟩);have XR2:=Qd (XQ.out DD.out.1.g DD.out.2.2.1).2.2.2;replace hHeld:=Xc DD.out.1.p (Xc DD.out.2.1 XR2.out);clear hWD FZ XR XR2;refine Qc 12 fun KQ hKQ=>?_
      go_simp;refine(KF.out _ _ DD.out.2.2.2.2).mono ?_;rintro e w8 ⟨rfl,hb⟩;have DE:Hid (FzR w gb bq R2 w8∧Box w8 g8 45 (Ul m3 vs8).toArray∧BnX X w8 R2 bq∧QsX X w8 vs8 m3):=Qd ⟨DD.out.1.kept hb,DD.out.2.1.kept hb,DD.out.2.2.1.below hb,DD.out.2.2.2.1.below hb⟩;have XR2:=Qd (XQ.out DE.out.1.g DE.out.2.2.1).2.2.2;clear hb DD KF;refine hKQ.out _ _ ⟨DE.out.1.p,DE.out.2.1,XR2.out⟩ (fun hHeld=>?_);clear hKQ KQ XR2;refine Qn 13 (.pointer (some ⟨gb,0,none⟩)) ?_;refine Qn 14 (.pointer (some ⟨gb,224,none⟩)) ?_;have P1:=Qd (HM4.out DE.out.1.g DE.out.2.2.1);refine Qc 15 fun KQ hKQ=>?_
      rw[if_pos (by rfl)];refine wp_store_mid 45 _ _ rfl gb 224 (Ul m3 vs8).toArray rfl rfl P1.out.1 (by simpa using SM.out.1) SM.out.2 ?_;refine Uh6 fun W9 hW9=>?_
      have DF:Hid (FzR w gb { bq with m:=m3 } { R2 with vs:=vs8 } W9∧Box W9 g8 45 (Ul m3 vs8).toArray∧BnX X W9 { R2 with vs:=vs8 } { bq with m:=m3 }):=Qd (by
       have hc:Chg (fun j=>j=gb) w8 W9:=by rw[hW9];exact Chg.setCells (X:=fun j=>j=gb) rfl _ _
       have hB:=P1.out.2;have hWe:W9=w8.setCells gb 224 (Ul m3 vs8):=hW9;rw[←hWe] at hB
       exact⟨⟨DE.out.1.p.chg hc (by omega),hB,DE.out.1.c.trans hc⟩,DE.out.2.1.chg hc (by omega),(DE.out.2.2.1.chg (Uo9 HXG.out hc)).withM (DE.out.2.2.2.chg (Uo9 HXG.out hc))⟩)
      have P2:=Qd (XQ4.out DF.out.1.g DF.out.2.2);clear hW9 DE P1;go_simp;refine hKQ.out _ _ ⟨DF.out.1.p,DF.out.2.1,P2.out.1,P2.out.2.1⟩ (fun hHeld=>?_);clear hKQ KQ;refine Qn 16 (.pointer (some ⟨gb,0,none⟩)) ?_;refine Qn 17 (.pointer (some ⟨gb,243,none⟩)) ?_;refine Xl (by kernel_rfl) ?_ _;refine U4 rfl (by rfl) ?_;refine wp_store_mid 52 _ _ rfl gb 243 x9.cells rfl rfl P2.out.2.2.1 Yj (Sta.one _) ?_;refine Yn fun Wa hWa=>?_
      have DG:Hid (Ujn X gb (fuseN b) w (.returned (.tuple #[])) Wa):=Qd (by
       have hc:Chg (fun j=>j=gb) W9 Wa:=by rw[hWa];exact Chg.setCells (X:=fun j=>j=gb) rfl _ _
       have hB:=P2.out.2.2.2;have hWe:Wa=W9.setCells gb 243 x9.list:=hWa;rw[←hWe] at hB;rw[HFZ.out]
       exact⟨_,rfl,hB,(DF.out.2.2.chg (Uo9 HXG.out hc)).with_ rfl rfl rfl rfl rfl rfl,DF.out.1.c.trans hc⟩)
      clear hWa DF P2 hHeld;go_wp2_with fail;exact bodyPost_end (results_none rfl _ _ _) rfl DG.out
    ·have HFZ:Hid (fuseN b=bq):=Qd (by rw[HF2.out];unfold mergeF;rw[if_neg (by rw[HPQ.out];omega)]);have hq2:((p:Int)+1==4)=false:=by simp;omega
     clear hq;go_wp2_with fail;exact bodyPost_end (results_none rfl _ _ _) rfl (by rw[HFZ.out];exact⟨R2,rfl,FZ14.out.1.g,FZ14.out.2,FZ14.out.1.c⟩)
end Go.Proofs.YtdaflmjfeoacaaaGreat
