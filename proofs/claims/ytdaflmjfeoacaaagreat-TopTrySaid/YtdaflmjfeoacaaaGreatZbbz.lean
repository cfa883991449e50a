/- Part of the proof of TopTry: ToD. Conditions: none. -/
import Derived.Test.YtdaflmjfeoacaaaGreatZbbx
import Derived.Test.YtdaflmjfeoacaaaGreatZbby
set_option linter.all false
set_option maxHeartbeats 16000000
set_option maxRecDepth 4000
namespace Go.Proofs.YtdaflmjfeoacaaaGreat
open Tryz
open Go.RowKit Go.Shelf
structure TrR (w:World) (lv:List Value) (cl:Array Value) (W:World):Prop where
 l:Box W w.heap.size 23 lv.toArray
 c:Box W (w.heap.size+1) 27 cl
 below:Below w.heap.size w W
theorem TrR.kept {w W W':World}{lv:List Value}{cl:Array Value}(H:TrR w lv cl W)(hb:Below W.heap.size W W'):TrR w lv cl W':=⟨H.l.kept hb,H.c.kept hb,Ua H.below hb H.below.size⟩
structure TrS (w:World) (N0:Nat) (lv:List Value) (cl:Array Value) (g:Nat) (cs:Array Value) (W:World):Prop where
 t:TrR w lv cl W
 b:Box W g 55 cs
 n:N0≤W.heap.size
 g0:w.heap.size+1<g
 g1:g<N0
theorem TrS.kept {w W W':World}{N0 g:Nat}{lv:List Value}{cl cs:Array Value}(H:TrS w N0 lv cl g cs W)(hb:Below W.heap.size W W'):TrS w N0 lv cl g cs W':=⟨H.t.kept hb,H.b.kept hb,Xd H.n hb.size,H.g0,H.g1⟩
theorem TrS.far {w W W':World}{N0 g g9:Nat}{lv:List Value}{cl cs:Array Value}(H:TrS w N0 lv cl g cs W)(hc:Chg (fun j=>j=g9) W W')(hg:N0≤g9):TrS w N0 lv cl g cs W':=by
 have h0:=H.g0;have h1:=H.g1;exact⟨⟨H.t.l.chg hc (by omega),H.t.c.chg hc (by omega),⟨hc.os.trans H.t.below.os,hc.tape.trans H.t.below.tape,hc.output.trans H.t.below.output,Xd H.t.below.size hc.size,fun k hk=>(hc.block k (Xe hk H.t.below.size) (by omega)).trans (H.t.below.block k hk)⟩⟩,H.b.chg hc (by omega),Xd H.n hc.size,h0,h1⟩
section
variable {X:Nat→Prop} {w:World} {R:Rep} {b:Bch} {n:Int} {gb:Nat}
theorem U6v (hg:Box w gb 55 (ncs b R))(h:BnX X w R b)(hs:Ya n b):w.cell? ⟨gb,220,none⟩=some (.bool b.fuse.t.done):=by
 rw[Uuu] at hg;obtain⟨cs,e,_,_,h34,_⟩:=h.fuse.task.parts;injection e with e
 rw[←e] at h34;exact Ubt hg (o:=186) (Ukb h hs) 34 _ (by simpa using h34)
theorem U6w (hg:Box w gb 55 (ncs b R))(h:BnX X w R b)(hs:Ya n b):w.cell? ⟨gb,343,none⟩=some (.bool (b.reads.getD 1 (Ui [])).t.done):=by
 obtain⟨T,eT,hT⟩:=h.reads 1 (by omega);rw[Uo8 (k:=1) (by rw[h.rl];omega)] at hg;obtain⟨cs,e,_,_,h34,_⟩:=hT.task.parts;injection e with e
 rw[←e] at h34;rw[Ugp eT];exact Ubt hg (o:=309) (Ukc (k:=1) h hs (by omega)) 34 _ (by simpa using h34)
end
theorem Utu {lv:List Value}{ls:List (List (List Int))}{c:Uag}{lag:Int}{v:Value}{ps:List Int}{w:World}(h4:lv.length=4)(hl4:ls.length=4)(hls:∀k,k<4→∃es,WsX (fun _=>False) w (lv.getD k (.bool false)) es (ls.getD k []))(hp:PkX (fun _=>False) w v ps) :
  Calls prog 3 #[.agg lv.toArray,Ucf c,.int .i64 lag,v] w (Ub (.bool true) w):=by
 have KA:=Qd (fun W=>Unx W);have KFW:Hid (∀W,Below w.heap.size w W→Calls prog 6 #[.agg lv.toArray] W (U1k ls W)):=Qd (fun W hb=>U3z h4 (fun k hk=>by obtain⟨es,h⟩:=hls k hk;exact⟨es,h.below hb⟩));have KRN:Hid (∀(X:Nat→Prop) W u qs,Below w.heap.size w W→(∀k,k<4→(ls.getD k []).length≤60)→(∀j,X j→w.heap.size≤j∧j<W.heap.size)→PkX (fun _=>False) W u qs→qs.length≤1000000→Calls prog 7 #[.agg lv.toArray,Ucf c,.int .i64 lag,u] W (Uu2 X (Uax (Y8 ls c lag) qs) W)):=Qd (fun X W u qs hb hf hX hq hn=>Urg c lag h4 hl4 (fun k hk=>by obtain⟨es,h⟩:=hls k hk;exact⟨es,(h.low.below hb).mono (fun j hj=>Or.inr (hX j hj).1)⟩) (fun k hk=>Xd (hf k hk) (by omega)) (fun j hj=>(hX j hj).2) hq hn);have HSN:Hid (∀qs,Ya ((qs.length:Nat):Int) (Uax (Y8 ls c lag) qs)):=Qd (fun qs=>by have:=(Uc4 ls hl4 c lag).plays qs;simpa using this);have HTP:Hid (((Uax (Y8 ls c lag) ps).reads.getD 1 (Ui [])).t.done=true→(Uax (Y8 ls c lag) ps).ver≠0→¬((Uax (Y8 ls c lag) ps).phase=4∧(Uax (Y8 ls c lag) ps).fuse.t.done=false)→_):=Qd (U33 ls hl4 c lag ps rfl);have HAP:Hid (Uax (Uax (Y8 ls c lag) ps) (List.replicate 28 6)=Uax (Y8 ls c lag) (ps++List.replicate 28 6)):=Qd (by unfold Uax;rw[List.foldl_append]);rw[HAP.out] at HTP;have S23:Hid ((prog.info? 23).map (·.size)=some lv.toArray.size∧(prog.info? 23).map (·.size)=some lv.length):=Qd ⟨by rw[List.size_toArray,h4];kernel_rfl,by rw[h4];kernel_rfl⟩;have S27:Hid ((prog.info? 27).map (·.size)=some c.list.toArray.size∧(prog.info? 27).map (·.size)=some c.list.length):=Qd ⟨Ua4,Ua4⟩;obtain⟨A9,c9,rfl,hc1,hc2⟩:=hp.form;obtain⟨N9,hN9⟩:∃N,N=ps.length:=⟨_,rfl⟩;have HPK:Hid (PkX (fun _=>False) w (.slice A9 N9 c9) ps):=Qd (by rw[hN9];exact hp);rw[←hN9];have HN9:=Qd hN9;clear h4 hl4 hls hp HAP hc1 hc2 hN9;dsimp only[Ucf,Uag.cells] at *;generalize c.list=cl at *;have HSA:=Qd (HSN.out ps);have HSB:=Qd (HSN.out (ps++List.replicate 28 6));generalize hb0:Uax (Y8 ls c lag) ps=b0 at HTP HSA;generalize hb1:Uax (Y8 ls c lag) (ps++List.replicate 28 6)=b1 at HTP HSB;have HB0:=Qd hb0;have HB1:=Qd hb1;clear hb0 hb1 HSN;go_enter func3,ntmps3;go_wp2_with fail;refine(KA.out _).mono ?_;rintro e w1 ⟨rfl,hb⟩;have D1:Hid (TrR w lv cl.toArray w1):=Qd (TrR.kept ⟨(Box.new _ _ _).alloc _,Box.at_ (by simp) _ _,((Xb _ w).alloc (Xa _) _).alloc (by simp) _⟩ hb);have HG1:Hid (w.heap.size+1<w1.heap.size):=Qd D1.out.c.lt;clear hb KA;go_wp2_with (with_reducible first|refine Qg 55 ?_|refine Qh 55 ?_|refine Qg 23 ?_|refine Qg 27 ?_);refine Uo.go w.heap.size rfl D1.out.l underlying23 rfl S23.out.1 ?_;go_wp2_with fail;refine(KFW.out _ D1.out.below).mono ?_;rintro e w2 ⟨few,rfl,hfew,hb⟩;have D2:=Qd (D1.out.kept hb);replace HG1:=Qd (Xe HG1.out hb.size);have HFE:=Qd hfew;clear hb hfew D1 KFW;cases few
 ·go_wp2_with fail;go_ret;exact⟨rfl,D2.out.below⟩
 by_cases hbig:(400:Int)<(N9:Int)
 ·go_wp2_with fail;go_ret;exact⟨rfl,D2.out.below⟩
 have HBG:Hid (ps.length≤400):=Qd (by rw[←HN9.out];omega);have HF6:=Qd (HFE.out rfl);clear HFE HN9;go_wp2_with (with_reducible first|refine Qg 55 ?_|refine Qh 55 ?_|refine Qg 23 ?_|refine Qg 27 ?_);refine Uo.go w.heap.size rfl D2.out.l underlying23 rfl S23.out.1 ?_;go_wp2_with (with_reducible first|refine Qg 55 ?_|refine Qh 55 ?_|refine Qg 23 ?_|refine Qg 27 ?_);refine Uo.go (w.heap.size+1) rfl D2.out.c underlying27 rfl S27.out.1 ?_;go_wp2_with fail;have KR1:Hid (Calls prog 7 #[.agg lv.toArray,.agg cl.toArray,.int .i64 lag,.slice A9 N9 c9] w2 (Uu2 (fun _=>False) b0 w2)):=Qd (by rw[←HB0.out];exact KRN.out _ w2 _ ps D2.out.below HF6.out (fun _ h=>h.elim) (PkX.below HPK.out D2.out.below) (by have:=HBG.out;omega));refine KR1.out.mono ?_;rintro e w3 ⟨R,rfl,hx,hb⟩;dsimp only[nv];have D3:=Qd (D2.out.kept hb);have HX3:=Qd hx;replace HG1:=Qd (Xe HG1.out hb.size);have SN:Hid ((prog.info? 55).map (·.size)=some (ncs b0 R).size∧345=(ncs b0 R).size∧(ncs b0 R).all (·.oneCell')=true):=Qd ⟨Uaw hx HSA.out,(Z5 (hx.lens HSA.out)).symm,Ugq hx⟩;clear hx hb D2 KR1;go_wp2_with (with_reducible first|refine Qg 55 ?_|refine Qh 55 ?_|refine Qg 23 ?_|refine Qg 27 ?_);refine Uf.go w3.heap.size rfl rfl (Box.new _ _ _) SN.out.1 SN.out.2.1 SN.out.2.2 ?_;go_upto_region 5 with fail
 refine Uq fun W5 hW5=>?_
 have hb5:Below w3.heap.size w3 W5:=by rw[hW5];exact Uc ((Xb _ w3).alloc (Xa _) _) (Xa _) _
 have D5:Hid (TrR w lv cl.toArray W5∧Box W5 w3.heap.size 55 (ncs b0 R)∧BnX (fun _=>False) W5 R b0∧w3.heap.size<W5.heap.size):=Qd (by
  have hB:Box W5 w3.heap.size 55 (ncs b0 R):=by rw[hW5];exact(Box.new _ _ _).row _
  exact⟨D3.out.kept hb5,hB,HX3.out.chg (Chg.of hb5),hB.lt⟩)
 clear hW5 hb5 D3 HX3 SN;generalize w3.heap.size=g10 at *
 have XC:Hid (∀W,Box W g10 55 (ncs b0 R)→W.cell? ⟨g10,343,none⟩=some (.bool (b0.reads.getD 1 (Ui [])).t.done)∧W.cell? ⟨g10,272,none⟩=some (.int .i64 b0.ver)∧W.cell? ⟨g10,222,none⟩=some (.int .i64 b0.phase)∧W.cell? ⟨g10,220,none⟩=some (.bool b0.fuse.t.done)∧W.rangeAt g10 243 b0.x.list):=Qd (fun W h=>by
  have e:∀k,W.cell? ⟨g10,k,none⟩=W5.cell? ⟨g10,k,none⟩:=fun k=>by rw[h.cell,D5.out.2.1.cell]
  refine⟨by rw[e];exact U6w D5.out.2.1 D5.out.2.2.1 HSA.out,by rw[e];exact U58 D5.out.2.1 D5.out.2.2.1 HSA.out,by rw[e];exact Ue7 D5.out.2.1 D5.out.2.2.1 HSA.out,by rw[e];exact U6v D5.out.2.1 D5.out.2.2.1 HSA.out,fun j u hj=>by rw[e];exact n_x D5.out.2.1 D5.out.2.2.1 HSA.out j u hj⟩)
 have D6:Hid (TrS w W5.heap.size lv cl.toArray g10 (ncs b0 R) W5):=Qd ⟨D5.out.1,D5.out.2.1,Xa _,HG1.out,D5.out.2.2.2⟩;clear D5 HG1 HSA HB0;generalize ncs b0 R=cs0 at *;generalize (b0.reads.getD 1 (Ui [])).t.done=rd at *;generalize b0.fuse.t.done=fd at *;generalize b0.ver=ver at *;generalize b0.phase=ph at *;generalize b0.x=x0 at *;obtain⟨tz,htz⟩:∃tz,tz=(!rd||decide (ver=0)||(decide (ph=4) && !fd)):=⟨_,rfl⟩;have HTZ:=Qd htz;clear htz;dsimp only[Act.put];go_cut [50] (fun z wx=>z = .bool tz∧wx=W5)
 case first =>
  obtain⟨x1,x2,x3,x4,_⟩:=XC.out _ D6.out.b;have HTZ2:Hid (∀q:Bool,q=(!rd||decide (ver=0)||(decide (ph=4) && !fd))→Value.bool q = .bool tz):=Qd (fun q h=>by rw[h,HTZ.out]);cases rd
  ·go_wp2_with fail;go_meet
   case rel=>exact⟨HTZ2.out _ (by simp),rfl⟩
  by_cases hv:ver=0
  ·subst hv;go_wp2_with fail;go_meet
   case rel=>exact⟨HTZ2.out _ (by simp),rfl⟩
  by_cases hp:ph=4
  ·subst hp;cases fd
   ·go_wp2_with fail;go_meet
    case rel=>exact⟨HTZ2.out _ (by simp),rfl⟩
   ·go_wp2_with fail;go_meet
    case rel=>exact⟨HTZ2.out _ (by simp[hv]),rfl⟩
  ·go_wp2_with fail;go_meet
   case rel=>exact⟨HTZ2.out _ (by simp[hv,hp]),rfl⟩
 case rest =>
  obtain⟨rfl,hwc⟩:=hcut;subst hwc;cases tz;rotate_right
  ·go_wp2_with fail;go_ret;exact⟨rfl,D6.out.t.below⟩
  have HC:Hid (rd=true∧ver≠0∧¬(ph=4∧fd=false)):=Qd (by have h:=HTZ.out;revert h;cases rd<;>cases fd<;>simp);obtain⟨x,hx,hxp,hB,hV,hL⟩:=HTP.out HC.out.1 HC.out.2.1 HC.out.2.2;have KT:Hid (∀W,Below w.heap.size w W→Calls prog 8 #[.slice A9 N9 c9,.int .i64 6,.int .i64 28] W (Uri (ps++List.replicate 28 6) W)):=Qd (fun W hb=>Ufw 6 28 (by omega) (by have:=HBG.out;omega) (PkX.below HPK.out hb));have P1:Hid (∀p,p∈ps++List.replicate 28 6→I64 p):=Qd (Uph HPK.out.2.2 (by unfold I64;omega));have KR2:Hid (∀(X:Nat→Prop) W u,Below w.heap.size w W→(∀j,X j→w.heap.size≤j∧j<W.heap.size)→PkX (fun _=>False) W u (ps++List.replicate 28 6)→Calls prog 7 #[.agg lv.toArray,.agg cl.toArray,.int .i64 lag,u] W (Uu2 X b1 W)):=Qd (fun X W u hb hX hq=>by rw[←HB1.out];exact KRN.out X W u _ hb HF6.out hX hq (by have:=HBG.out;simp;omega));have HLN:Hid (w.heap.size≤wc.heap.size):=Qd D6.out.t.below.size;generalize wc.heap.size=N0 at D6 HLN
  have KRD:Hid (∀(X:Nat→Prop) W R1,BnX X W R1 b1→Calls prog 9 #[.agg (ncs b1 R1),.int .i64 1] W (Ub (.tuple #[.int .i64 ver,stv x,.bool true]) W)):=Qd (fun X W R1 h=>by
   obtain⟨T,eT,_⟩:=h.reads 1 (by omega);rw[Ugp eT] at hB hV hL;have:=Ul1 (r:=1) h HSB.out (by omega) eT hx hB hL
   rwa [hV] at this)
  have HX:=Qd hx;have HXP:=Qd hxp;clear hx hxp hB hV hL HTP HC HTZ KRN HB1 HPK HF6 HBG;generalize ps++List.replicate 28 6=qs at *;go_upto_region 7 with fail
  go_cut [11] (fun p wx=>∃g R1,p = .pointer (some ⟨g,0,none⟩)∧Hid (Box wx g 55 (ncs b1 R1)∧BnX (fun j=>j=g) wx R1 b1∧TrS w N0 lv cl.toArray g10 cs0 wx))
  case first =>
   refine Xm (S:=TrS w N0 lv cl.toArray g10 cs0) (by kernel_rfl) (D6.out.kept (Ue (Xb _ _) 1)) (fun hHeld=>?_);refine Ux (i:=0) (v := .agg (lv).toArray) rfl rfl (by kernel_rfl) (by kernel_rfl) (by kernel_rfl) (fun _ _ _ h=>h)
    (Xn (by rfl) 23 _ rfl (w.heap.size) (0) rfl (lv) _ (fun _ h=>h.t.l.rangeA) underlying23 rfl S23.out.2) hHeld ?_
   simp only[Qz];refine Ux (i:=1) (v := .agg (cl).toArray) rfl rfl (by kernel_rfl) (by kernel_rfl) (by kernel_rfl) (fun _ _ _ h=>h)
    (Xn (by rfl) 27 _ rfl ((w.heap.size+1)) (0) rfl (cl) _ (fun _ h=>h.t.c.rangeA) underlying27 rfl S27.out.2) hHeld ?_
   simp only[Qz];refine Qn 2 (.int .i64 lag) ?_;refine Qn 3 (.slice A9 N9 c9) ?_;refine Ut fun V0 hV0=>?_
   have DB0:Hid (TrS w N0 lv cl.toArray g10 cs0 V0):=Qd (by rw[hV0];exact D6.out.kept (Ue (Xb _ _) 1));replace hHeld:=DB0.out;clear hV0 D6;refine wpAnyH_ready (rs:=[4,6]) (by kernel_rfl) (by simp) ?_;refine Xo rfl (fun KQ hKQ=>?_) (Xo rfl (fun KQ hKQ=>?_) AllReadyH.nil);rotate_right
   focus
    go_simp;refine hKQ.out _ _ (DB0.out.kept ((Xb _ _).alloc (Xa _) _)) (fun hHeld0=>?_);clear hKQ KQ hHeld0;refine Ut fun wb1 hwb1=>?_
    have hba:Below V0.heap.size V0 wb1:=by rw[hwb1];exact(Xb _ _).alloc (Xa _) _
    have GZ0:∃Z,Box wb1 V0.heap.size 55 Z∧Z.size=345∧N0≤V0.heap.size:=by rw[hwb1];exact⟨_,Box.new _ _ _,rfl,DB0.out.n⟩
    obtain⟨Z9,GZ0⟩:=GZ0;have hHeld:=DB0.out.kept hba;have DB1:=Qd (DB0.out.kept hba);have GL:Hid (V0.heap.size<wb1.heap.size):=Qd (GZ0.1.lt);have GZ:=Qd GZ0;clear hwb1 hba GZ0 DB0;generalize V0.heap.size=g9 at GZ GL ⊢;refine Qc 4 fun KQ hKQ=>?_
    go_simp;refine(KT.out _ DB1.out.t.below).mono ?_;rintro e wb2 ⟨v1,rfl,ho⟩;have hb:=Below.mono ho.below (Xa _);have DB2:=Qd (DB1.out.kept hb);replace GZ:=Qd (Xc (GZ.out.1.kept hb) GZ.out.2);replace GL:=Qd (Xe GL.out (Xp hb));have PK:Hid (PkX (fun _=>False) wb2 v1 qs):=Qd (ho.pk P1.out _ (fun _ h=>h.elim));clear ho hb DB1;refine hKQ.out _ _ DB2.out (fun hHeld=>?_);clear hKQ KQ;refine Qc 5 fun KQ hKQ=>?_
    go_simp;refine(KR2.out (fun j=>N0≤j∧j<wb2.heap.size) _ _ DB2.out.t.below (fun j hj=>⟨Xd HLN.out hj.1,hj.2⟩) PK.out).mono ?_;rintro e wb3 ⟨R1,rfl,hx,hb⟩;dsimp only[nv];have DB3:=Qd (DB2.out.kept hb);replace GZ:=Qd (Xc (GZ.out.1.kept hb) GZ.out.2);obtain⟨n1,hn1⟩:∃n1,n1=wb2.heap.size:=⟨_,rfl⟩;obtain⟨n2,hn2⟩:∃n2,n2=wb3.heap.size:=⟨_,rfl⟩;have HV:Hid (BnX (fun j=>(N0≤j∧j<n1)∨n2≤j) wb3 R1 b1∧n2≤wb3.heap.size):=Qd (by rw[hn1,hn2];exact⟨hx.low,Xa _⟩);have HG:Hid ((N0≤g9∧g9<n1)∨n2≤g9):=Qd (Or.inl ⟨GZ.out.2.2,by rw[hn1];exact GL.out⟩);clear hb hx hn1 hn2 PK DB2 GL;refine hKQ.out _ _ DB3.out (fun hHeld=>?_);clear hKQ KQ
   rotate_right
   focus
    go_simp;refine(KT.out _ DB0.out.t.below).mono ?_;rintro e wb1 ⟨v1,rfl,ho⟩;have hb:=Below.mono ho.below (Xa _);have DB1:=Qd (DB0.out.kept hb);have PK:Hid (PkX (fun _=>False) wb1 v1 qs):=Qd (ho.pk P1.out _ (fun _ h=>h.elim));clear ho hb DB0;refine hKQ.out _ _ DB1.out (fun hHeld=>?_);clear hKQ KQ;refine wpAnyH_ready (rs:=[5,6]) (by kernel_rfl) (by simp) ?_;refine Xo rfl (fun KQ hKQ=>?_) (Xo rfl (fun KQ hKQ=>?_) AllReadyH.nil);rotate_right
    focus
     go_simp;refine hKQ.out _ _ (DB1.out.kept ((Xb _ _).alloc (Xa _) _)) (fun hHeld0=>?_);clear hKQ KQ hHeld0;refine Ut fun wb2 hwb2=>?_
     have hba:Below wb1.heap.size wb1 wb2:=by rw[hwb2];exact(Xb _ _).alloc (Xa _) _
     have GZ0:∃Z,Box wb2 wb1.heap.size 55 Z∧Z.size=345∧N0≤wb1.heap.size:=by rw[hwb2];exact⟨_,Box.new _ _ _,rfl,DB1.out.n⟩
     obtain⟨Z9,GZ0⟩:=GZ0;have hHeld:=DB1.out.kept hba;have DB2:=Qd (DB1.out.kept hba);replace PK:=Qd (PkX.below PK.out hba);have GL:Hid (wb1.heap.size<wb2.heap.size):=Qd (GZ0.1.lt);have GZ:=Qd GZ0;clear hwb2 hba GZ0 DB1;generalize wb1.heap.size=g9 at GZ GL ⊢;refine Qc 5 fun KQ hKQ=>?_
     go_simp;refine(KR2.out (fun j=>N0≤j∧j<wb2.heap.size) _ _ DB2.out.t.below (fun j hj=>⟨Xd HLN.out hj.1,hj.2⟩) PK.out).mono ?_;rintro e wb3 ⟨R1,rfl,hx,hb⟩;dsimp only[nv];have DB3:=Qd (DB2.out.kept hb);replace GZ:=Qd (Xc (GZ.out.1.kept hb) GZ.out.2);obtain⟨n1,hn1⟩:∃n1,n1=wb2.heap.size:=⟨_,rfl⟩;obtain⟨n2,hn2⟩:∃n2,n2=wb3.heap.size:=⟨_,rfl⟩;have HV:Hid (BnX (fun j=>(N0≤j∧j<n1)∨n2≤j) wb3 R1 b1∧n2≤wb3.heap.size):=Qd (by rw[hn1,hn2];exact⟨hx.low,Xa _⟩);have HG:Hid ((N0≤g9∧g9<n1)∨n2≤g9):=Qd (Or.inl ⟨GZ.out.2.2,by rw[hn1];exact GL.out⟩);clear hb hx hn1 hn2 PK DB2 GL;refine hKQ.out _ _ DB3.out (fun hHeld=>?_);clear hKQ KQ
    rotate_right
    focus
     go_simp;refine(KR2.out (fun j=>N0≤j∧j<wb1.heap.size) _ _ DB1.out.t.below (fun j hj=>⟨Xd HLN.out hj.1,hj.2⟩) PK.out).mono ?_;rintro e wb2 ⟨R1,rfl,hx,hb⟩;dsimp only[nv];have DB2:=Qd (DB1.out.kept hb);obtain⟨n1,hn1⟩:∃n1,n1=wb1.heap.size:=⟨_,rfl⟩;obtain⟨n2,hn2⟩:∃n2,n2=wb2.heap.size:=⟨_,rfl⟩;have HV:Hid (BnX (fun j=>(N0≤j∧j<n1)∨n2≤j) wb2 R1 b1∧n2≤wb2.heap.size):=Qd (by rw[hn1,hn2];exact⟨hx.low,Xa _⟩);clear hb hx hn1 hn2 PK DB1;refine hKQ.out _ _ DB2.out (fun hHeld=>?_);clear hKQ KQ;refine Qc 6 fun KQ hKQ=>?_
     go_simp;refine hKQ.out _ _ (DB2.out.kept ((Xb _ _).alloc (Xa _) _)) (fun hHeld0=>?_);clear hKQ KQ hHeld0;refine Ut fun wb3 hwb3=>?_
     have hba:Below wb2.heap.size wb2 wb3:=by rw[hwb3];exact(Xb _ _).alloc (Xa _) _
     have GZ0:∃Z,Box wb3 wb2.heap.size 55 Z∧Z.size=345∧N0≤wb2.heap.size:=by rw[hwb3];exact⟨_,Box.new _ _ _,rfl,DB2.out.n⟩
     obtain⟨Z9,GZ0⟩:=GZ0;have hHeld:=DB2.out.kept hba;have DB3:=Qd (DB2.out.kept hba);have HG:Hid ((N0≤wb2.heap.size∧wb2.heap.size<n1)∨n2≤wb2.heap.size):=Qd (Or.inr HV.out.2);replace HV:=Qd (Xc (HV.out.1.chg (Chg.of hba)) (Xd HV.out.2 hba.size));have GZ:=Qd GZ0;clear hwb3 hba GZ0 DB2;generalize wb2.heap.size=g9 at GZ HG ⊢
   all_goals
    refine Qc 7 fun KQ hKQ=>?_
    rw[if_pos (by rfl)];refine wp_store_mid 55 _ _ rfl g9 0 (ncs b1 R1) rfl rfl (GZ.out.1.thereAll (by rw[GZ.out.2.1];exact(Z5 (HV.out.1.lens HSB.out)).symm)) (Uaw HV.out.1 HSB.out) (Ugq HV.out.1) ?_;refine Uh6 fun W8 hW8=>?_
    have FZ8:Hid (Box W8 g9 55 (ncs b1 R1)∧BnX (fun j=>j=g9) W8 R1 b1∧TrS w N0 lv cl.toArray g10 cs0 W8):=Qd (by
     have hc:Chg (fun j=>j=g9) wb3 W8:=by rw[hW8];exact Chg.setCells (X:=fun j=>j=g9) rfl _ _
     have hbx:Box W8 g9 55 (ncs b1 R1):=by rw[hW8];exact GZ.out.1.setCells_all (by rw[Array.length_toList,GZ.out.2.1];exact Z5 (HV.out.1.lens HSB.out))
     exact⟨hbx,(HV.out.1.chg (hc.mono (fun _ _ e=>by rw[e];exact HG.out))).mono (fun j e=>by rw[e];exact HG.out),DB3.out.far hc GZ.out.2.2⟩)
    clear hW8 DB3 HV GZ HG;go_simp;refine hKQ.out _ _ FZ8.out.2.2 (fun hHeld=>?_);clear hKQ KQ;refine Xl (by kernel_rfl) ?_ _;go_wp2_with fail;go_meet
    case rel=>exact⟨g9,R1,rfl,FZ8⟩
  case rest =>
   obtain⟨g,R1,rfl,FZ⟩:=hcut;have SB:=Qd (Uaw FZ.out.2.1 HSB.out);have KR1:=Qd (KRD.out _ _ _ FZ.out.2.1);have SX:Hid ((prog.info? 52).map (·.size)=some x.cells.size∧x.cells.all (·.oneCell')=true∧x.cells.size=29):=Qd ⟨Yj,Sta.one _,rfl⟩;have HQ:=Upg x;have KSN:Hid (∀W,Calls prog 10 #[.agg x.cells] W (Ub (.bool true) W)):=Qd (fun W=>by have:=Ucr x W;rwa [Xi HX.out] at this);dsimp only[stv] at HQ KR1;obtain⟨xl,hxl⟩:∃l,x.list=l:=⟨_,rfl⟩;have exl:x.cells=xl.toArray:=by rw[←hxl];rfl
   rw[exl] at KR1 SX HQ KSN;have HXL:=Qd hxl;clear exl hxl KRD;go_wp2_with (with_reducible first|refine Qg 55 ?_|refine Qh 52 ?_);refine Uo.go g rfl FZ.out.1 underlying55 rfl SB.out ?_;go_wp2_with fail;refine KR1.out.mono ?_;rintro e w3 ⟨rfl,hb⟩;have D3:=Qd (FZ.out.2.2.kept hb);clear hb KR1 FZ SB;go_wp2_with (with_reducible first|refine Qg 55 ?_|refine Qh 52 ?_);refine Uf.go w3.heap.size rfl rfl (Box.new _ _ _) SX.out.1 (by rw[SX.out.2.2];rfl) SX.out.2.1 ?_;go_upto_region 9 with fail
   refine Uq fun W4 hW4=>?_
   have D4:Hid (TrS w N0 lv cl.toArray g10 cs0 W4∧Box W4 w3.heap.size 52 xl.toArray):=Qd (by
    have hb:Below w3.heap.size w3 W4:=by rw[hW4];exact Uc ((Xb _ w3).alloc (Xa _) _) (Xa _) _
    exact⟨D3.out.kept hb,by rw[hW4];exact(Box.new _ _ _).row _⟩)
   clear hW4 D3;generalize w3.heap.size=g4 at *;have XB:Hid (∀W:World,W.rangeAt g10 243 x0.list→ph≠4→W.rangeAt g10 243 xl):=Qd (fun W h hp=>by rcases HXP.out with h2|h2;(· exact absurd h2 hp);rw[←HXL.out,h2];exact h);have S52:Hid ((prog.info? 52).map (·.size)=some xl.length):=Qd (by have:=SX.out.1;simpa using this);obtain⟨_,x2,_,_,_⟩:=XC.out _ D4.out.1.b;go_wp2_with (first|refine Ubf 52 _ rfl (by rfl) ?_);refine Zr.go g4 0 rfl D4.out.2.rangeA underlying52 rfl S52.out ?_;go_wp2_with fail;refine(KSN.out _).mono ?_;rintro e w9 ⟨rfl,hb⟩;have D9:Hid (TrS w N0 lv cl.toArray g10 cs0 w9∧Box w9 g4 52 xl.toArray):=Qd ⟨D4.out.1.kept hb,D4.out.2.kept hb⟩;clear hb D4 x2;obtain⟨_,_,x3,_,x5⟩:=XC.out _ D9.out.1.b;have XR:Hid (ph≠4→w9.rangeAt g10 243 xl):=Qd (fun h=>XB.out _ x5 h);clear x5;by_cases hp:ph=4
   ·subst hp;go_wp2_with fail;go_ret;exact⟨rfl,D9.out.1.t.below⟩
   ·have hpe:(ph==4)=false:=by simp[hp]
    go_wp2_with (first|refine Ubf 52 _ rfl (by rfl) ?_);refine Zr.go g4 0 rfl D9.out.2.rangeA underlying52 rfl S52.out ?_;go_wp2_with (first|refine Ubf 52 _ rfl (by rfl) ?_);refine Zr.go g10 243 rfl (XR.out hp) underlying52 rfl S52.out ?_;go_wp2_with fail;go_ret;exact⟨rfl,D9.out.1.t.below⟩
end Go.Proofs.YtdaflmjfeoacaaaGreat
