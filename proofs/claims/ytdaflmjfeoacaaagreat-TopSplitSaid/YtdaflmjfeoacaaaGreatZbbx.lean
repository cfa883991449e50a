/- Part of the proof of TopTry, TopSplit: ToB. Conditions: none. -/
import Derived.Test.YtdaflmjfeoacaaaGreatZbbw
set_option linter.all false
set_option maxHeartbeats 16000000
set_option maxRecDepth 4000
namespace Go.Proofs.YtdaflmjfeoacaaaGreat
open Tryz
open Go.RowKit Go.Shelf
def xA:Sta:=⟨3,1,0,⟨⟨4294967296,0,0,0⟩,⟨0,0,0⟩,false⟩,⟨4293918985,12579733,4293918711,12579732,17592038233348,false⟩,⟨4293918985,12579733,4293918711,12579732,17592038233348,false⟩,⟨4293918985,12579733,4293918711,12579732,17592038233348,false⟩⟩
theorem U1n:Ual xA:=by decide
theorem U8f:U3x.x=xA:=by kernel_rfl
def U82:FT:=Urh.reads.getD 0 (Ui [])
theorem U6s:Urh.reads[0]? = some U82:=by kernel_rfl
theorem Uxm:Uhc U82 26=true:=by kernel_rfl
theorem Uxn:Ukz U82 26=U0 xA:=by kernel_rfl
theorem Ufd:Ya 75 Urh:=(Uc4 lsA rfl Uak 0).plays psA
theorem Urj:Ubg Uto:=by decide
def AwR (w:World)(N0 g1:Nat)(v10 v9:Value)(W:World):Prop :=
 Box W g1 23 ([.slice none 0 0,.slice none 0 0,v10,.slice none 0 0]:List Value).toArray∧WsX (fun j=>N0≤j) W v10 [v9] [Yk Uto]∧Below w.heap.size w W∧N0≤W.heap.size∧g1<N0∧w.heap.size≤N0
theorem AwR.kept {w W W':World}{N0 g1:Nat}{v10 v9:Value}(H:AwR w N0 g1 v10 v9 W)(hb:Below W.heap.size W W'):AwR w N0 g1 v10 v9 W' :=
 ⟨H.1.kept hb,H.2.1.chg (Chg.of hb),Ua H.2.2.1 hb H.2.2.1.size,Xd H.2.2.2.1 hb.size,H.2.2.2.2⟩
theorem AwR.far {w W W':World}{N0 g1 g:Nat}{v10 v9:Value}(H:AwR w N0 g1 v10 v9 W)(hc:Chg (fun j=>j=g) W W')(hg:N0≤g):AwR w N0 g1 v10 v9 W' :=
 ⟨H.1.chg hc (by have:=H.2.2.2.2.1;omega),H.2.1.chg (hc.mono (fun _ _ e=>by rw[e];exact hg)),⟨hc.os.trans H.2.2.1.os,hc.tape.trans H.2.2.1.tape,hc.output.trans H.2.2.1.output,Xd H.2.2.1.size hc.size,fun k hk=>(hc.block k (Xe hk H.2.2.1.size) (by have:=H.2.2.2.2.2;omega)).trans (H.2.2.1.block k hk)⟩,Xd H.2.2.2.1 hc.size,H.2.2.2.2⟩
def Uu2 (X:Nat→Prop)(b:Bch)(w:World)(e:Ending)(w':World):Prop:=∃R,e = .returned (nv b R)∧BnX X w' R b∧Below w.heap.size w w'
theorem PkX.below {X:Nat→Prop}{w w':World}{v:Value}{ps:List Int}(h:PkX X w v ps)(hb:Below w.heap.size w w'):PkX X w' v ps:=h.chg (Chg.of hb)
theorem U8g (X:Nat→Prop)(w:World):PkX X w (.slice none 0 0) []:=⟨Sl.nil w 1,Ud0.nil _ _ _,fun p hp=>by simp at hp⟩
theorem Uph {n:Nat}{x:Int}{l:List Int}(h:∀p,p∈l→I64 p)(hx:I64 x):∀p,p∈l++List.replicate n x→I64 p:=fun p hp=>by
 rcases List.mem_append.1 hp with hp|hp
 ·exact h p hp
 ·rw[List.eq_of_mem_replicate hp];exact hx
def p1A:List Int:=[]++List.replicate 8 2
def p2A:List Int:=p1A++List.replicate 39 4
def p3A:List Int:=p2A++List.replicate 28 5
theorem U4r:∀p,p∈p1A→I64 p:=Uph (fun p hp=>by simp at hp) (by unfold I64;omega)
theorem U4s:∀p,p∈p2A→I64 p:=Uph U4r (by unfold I64;omega)
theorem U8h:∀p,p∈p3A→I64 p:=Uph U4s (by unfold I64;omega)
theorem U30 {w:World}{g:Nat}{v:Value}(h:Sl w (.slice (some ⟨g,0,none⟩) 1 1) 1 1 [v]):w.cell? ⟨g,0,none⟩=some v:=by
 obtain⟨_,A,c,e,_,_,_,h4⟩:=h;injection e with e1 _ _
 obtain⟨ad,ha,_,hc⟩:=h4 (by omega);rw[←e1] at ha;injection ha with ha
 have:=hc 0 v rfl;rw[←ha,Ua7] at this;exact this
def Uci (v9:Value)(t:Int):Array Value:=#[.bool false,.int .i64 2,.int .i64 0,v9,.bool true,.int .i64 0,.int .i64 t,.slice none 0 0]
def U63 (v9:Value):List Dox:=[⟨false,2,0,v9,Yk Uto⟩,⟨true,0,3,.slice none 0 0,[]⟩]
theorem U6t (v9:Value):okB Uak Ujj (U63 v9):=by
 have h6:(Yk Uto).length=6:=Uh5 Urj;have h1:Uba (Ujk Ujj 2 (Yk Uto)):=Ufb Ufc (by omega) h6 (by decide);exact⟨Ufc,⟨(fun h=>by cases h),fun _=>⟨by show 2<4;omega,h6,by show 0<8;omega⟩⟩,h1,⟨fun _=>by decide,(fun h=>by cases h)⟩,Uct h1 Uak (by decide)⟩
theorem Ul4:Uba U3x:=by
 have h6:(Yk Uto).length=6:=Uh5 Urj;exact Uct (Ufb (k:=2) Ufc (by omega) h6 (by decide)) Uak (by decide)
theorem U1o (t:Int):∀w,(Instr.build 69 #[(0,.bool true),(2,.int .i64 t)]).run prog w = .ok (.agg #[.bool true,.int .i64 0,.int .i64 t,.slice none 0 0]) w:=fun w=>by kernel_rfl
theorem Ubq (A:Option Addr)(n m:Nat):∀w,(Instr.buildSlice 70 2 #[(0,.agg #[.bool false,.int .i64 2,.int .i64 0,.slice A n m]),(1,.agg #[.bool true,.int .i64 0,.int .i64 3,.slice none 0 0])]).run prog w = .ok (.slice (some ⟨w.heap.size,0,none⟩) 2 2) (w.alloc (.cells (Uci (.slice A n m) 3) 69)):=fun w=>by kernel_rfl
theorem Uef {X:Nat→Prop}{W:World}{gr:Nat}{v9:Value}(hB:Box W gr 69 (Uci v9 3))(hX:¬X gr)(hw:WdX X W v9 (Yk Uto)):Ulz X W (.slice (some ⟨gr,0,none⟩) 2 2) (U63 v9):=by
 refine⟨⟨rfl,_,2,rfl,Xa _,by simp[maxLen],(fun h=>by cases h),fun _=>⟨_,rfl,hB.lt,fun j u hu=>?_⟩⟩,fun a n c e _ hx=>?_,fun d hd=>?_⟩
 ·have e:Uci v9 3=((U63 v9).flatMap Dox.list).toArray:=rfl;rw[Ua7,hB.cell,Nat.zero_add,e,List.getElem?_toArray];exact hu
 ·injection e with e1 _ _
  injection e1 with e1
  rw[←e1] at hx;exact hX hx
 ·simp only[U63,List.mem_cons,List.not_mem_nil,or_false] at hd;rcases hd with rfl|rfl
  ·exact hw
  ·exact⟨Yx.nil _,Ud0.nil _ _ _⟩
theorem Utq:∀w,(Instr.build 24 #[(0,.int .i64 4294967296),(1,.int .i64 4294967296),(2,.int .i64 4294967296)]).run prog w = .ok (.agg #[.int .i64 4294967296,.int .i64 4294967296,.int .i64 4294967296]) w:=fun w=>by kernel_rfl
theorem Uxo:∀w,(Instr.build 40 #[(0,.int .i64 3),(1,.int .i64 2),(2,.agg #[.int .i64 4294967296,.int .i64 4294967296,.int .i64 4294967296])]).run prog w = .ok (.agg Uto.cells) w:=fun w=>by kernel_rfl
theorem Utr (g:Nat):∀w,(Instr.build 23 #[(0,.slice none 0 0),(1,.slice none 0 0),(2,.slice (some ⟨g,0,none⟩) 1 1),(3,.slice none 0 0)]).run prog w = .ok (.agg #[.slice none 0 0,.slice none 0 0,.slice (some ⟨g,0,none⟩) 1 1,.slice none 0 0]) w:=fun w=>by kernel_rfl
theorem Unx (w:World):Calls prog 5 #[] w (Ub (.bool true) w):=by
 have KW:Hid (∀W,Calls prog 14 #[Udr Uto] W (Ubj (Yk Uto) W)):=Qd (fun W=>Ulj Uto W);have KPL:Hid (∀W,Calls prog 15 #[] W (Ub (.agg Uak.list.toArray) W)):=Qd (fun W=>Uxl W);have KT1:Hid (∀W,Calls prog 8 #[.slice none 0 0,.int .i64 2,.int .i64 8] W (Uri p1A W)):=Qd (fun W=>Ufw 2 8 (by omega) (by simp) (U8g _ W));have KT2:Hid (∀W v,PkX (fun _=>False) W v p1A→Calls prog 8 #[v,.int .i64 4,.int .i64 39] W (Uri p2A W)):=Qd (fun W v h=>Ufw 4 39 (by omega) (by decide) h);have KT3:Hid (∀W v,PkX (fun _=>False) W v p2A→Calls prog 8 #[v,.int .i64 5,.int .i64 28] W (Uri p3A W)):=Qd (fun W v h=>Ufw 5 28 (by omega) (by decide) h);have KRN:Hid (∀(X:Nat→Prop) W v v10 v9,WsX X W v10 [v9] [Yk Uto]→(∀j,X j→j<W.heap.size)→PkX (fun _=>False) W v p3A→Calls prog 7 #[.agg ([.slice none 0 0,.slice none 0 0,v10,.slice none 0 0]:List Value).toArray,.agg Uak.list.toArray,.int .i64 0,v] W (Uu2 X Urh W)):=Qd (fun X W v v10 v9 h1 h2 h3=>Urg (ls:=lsA) Uak 0 rfl rfl (fun k hk=>by rcases (show k=0∨k=1∨k=2∨k=3 by omega) with rfl|rfl|rfl|rfl;(· exact⟨[],WsX.nil _ _⟩);(· exact⟨[],WsX.nil _ _⟩);(· exact⟨[v9],h1⟩);exact⟨[],WsX.nil _ _⟩) (fun k hk=>by rcases (show k=0∨k=1∨k=2∨k=3 by omega) with rfl|rfl|rfl|rfl<;>decide) h2 h3 (by decide));have P1:Hid (∀p,p∈p1A→I64 p):=Qd U4r;have P2:Hid (∀p,p∈p2A→I64 p):=Qd U4s;have P3:Hid (∀p,p∈p3A→I64 p):=Qd U8h;have S23:Hid (∀v:Value,(prog.info? 23).map (·.size)=some ([.slice none 0 0,.slice none 0 0,v,.slice none 0 0]:List Value).length):=Qd (fun _=>by kernel_rfl);generalize p1A=p1 at *;generalize p2A=p2 at *;generalize p3A=p3 at *;obtain⟨pc,hpc⟩:∃pc,Uak.list.toArray=pc:=⟨_,rfl⟩;rw[hpc] at KPL KRN;have HPC:=Qd hpc;clear hpc;dsimp only[Udr] at KW;go_enter func5,ntmps5;go_wp2_with (with_reducible first|refine Qk 24 ?_|refine Qk 40 ?_|refine Qk 23 ?_|refine Qh 23 ?_|refine Qg 55 ?_|refine Qh 52 ?_|refine Qg 52 ?_);refine Ubm.go _ (by simp only[List.map_toArray,List.map_cons,List.map_nil];exact Utq _) ?_;go_wp2_with (with_reducible first|refine Qk 24 ?_|refine Qk 40 ?_|refine Qk 23 ?_|refine Qh 23 ?_|refine Qg 55 ?_|refine Qh 52 ?_|refine Qg 52 ?_);refine Ubm.go _ (by simp only[List.map_toArray,List.map_cons,List.map_nil];exact Uxo _) ?_;go_wp2_with fail;refine(KW.out _).mono ?_;rintro e w1 ⟨v9,rfl,ho,hb⟩;obtain⟨a9,n9,c9,rfl⟩:∃a n c,v9 = .slice a n c:=by obtain⟨a,c,e,_⟩:=ho.words.1.form;exact⟨a,_,c,e⟩
 have HO9:Hid (WdX (fun j=>w1.heap.size≤j) w1 (.slice a9 n9 c9) (Yk Uto)∧Below w.heap.size w w1):=Qd ⟨(WdX.low (WdX.own (X:=fun _=>False) ho (fun k hk=>hk.elim))).mono (fun j hj=>Or.inr hj),hb⟩;clear ho hb KW;have hbl:=Utr w1.heap.size;go_wp2_with (with_reducible first|refine Qk 24 ?_|refine Qk 40 ?_|refine Qk 23 ?_|refine Qh 23 ?_|refine Qg 55 ?_|refine Qh 52 ?_|refine Qg 52 ?_);refine Ubm.go _ (by simp only[List.map_toArray,List.map_cons,List.map_nil];exact hbl _) ?_;clear hbl;go_wp2_with (with_reducible first|refine Qk 24 ?_|refine Qk 40 ?_|refine Qk 23 ?_|refine Qh 23 ?_|refine Qg 55 ?_|refine Qh 52 ?_|refine Qg 52 ?_);refine Uf.go (w1.heap.size+1) rfl rfl (Box.at_ (by simp) _ _) (S23.out _) rfl (by kernel_rfl) ?_;go_upto_region 2 with fail
 refine Uq fun W2 hW2=>?_
 have D0:Hid (AwR w W2.heap.size (w1.heap.size+1) (.slice (some ⟨w1.heap.size,0,none⟩) 1 1) (.slice a9 n9 c9) W2):=Qd (by
  have hb:Below w1.heap.size w1 W2:=by rw[hW2];exact Uc (((Xb _ w1).alloc (Xa _) _).alloc (by simp) _) (by simp) _
  have hB:Box W2 w1.heap.size 31 #[.slice a9 n9 c9]:=by rw[hW2];exact((Box.new _ _ _).alloc _).row_far (by omega) _
  have hB2:Box W2 (w1.heap.size+1) 23 ([.slice none 0 0,.slice none 0 0,.slice (some ⟨w1.heap.size,0,none⟩) 1 1,.slice none 0 0]:List Value).toArray:=by rw[hW2];exact(Box.at_ (by simp) _ _).row _
  refine⟨hB2,⟨rfl,U0m hB,fun a n c e hn hx=>?_,fun i hi=>?_⟩,Ua HO9.out.2 hb HO9.out.2.size,Xa _,hB2.lt,Xd HO9.out.2.size hb.size⟩
  ·injection e with e1 _ _
   injection e1 with e1
   subst e1;have:=hB.lt;simp only at hx;omega
  ·obtain rfl:i=0:=by simp at hi;omega
   exact(HO9.out.1.chg (Chg.of hb)).mono (fun j hj=>Xd hb.size hj))
 have HLN:Hid (w.heap.size≤W2.heap.size):=Qd D0.out.2.2.1.size;clear hW2 HO9;generalize w1.heap.size+1=g1 at *;generalize w1.heap.size=g0 at *;dsimp only[Act.put];go_cut [2] (fun p wx=>∃g R,p = .pointer (some ⟨g,0,none⟩)∧Hid (Box wx g 55 (ncs Urh R)∧BnX (fun j=>j=g) wx R Urh∧AwR w W2.heap.size g1 (.slice (some ⟨g0,0,none⟩) 1 1) (.slice a9 n9 c9) wx))
 case first =>
  refine Xm (S:=AwR w W2.heap.size g1 (.slice (some ⟨g0,0,none⟩) 1 1) (.slice a9 n9 c9)) (by kernel_rfl) (AwR.kept D0.out (Ue (Xb _ _) 1)) (fun hHeld=>?_);refine Ux (i:=0) (v := .agg ([.slice none 0 0,.slice none 0 0,.slice (some ⟨g0,0,none⟩) 1 1,.slice none 0 0]).toArray) rfl rfl (by kernel_rfl) (by kernel_rfl) (by kernel_rfl) (fun _ _ _ h=>h)
   (Xn (by rfl) 23 _ rfl (g1) (0) rfl ([.slice none 0 0,.slice none 0 0,.slice (some ⟨g0,0,none⟩) 1 1,.slice none 0 0]) _ (fun _ h=>h.1.rangeA) underlying23 rfl (S23.out _)) hHeld ?_
  simp only[Qz];refine Ut fun V0 hV0=>?_
  have DB0:Hid (AwR w W2.heap.size g1 (.slice (some ⟨g0,0,none⟩) 1 1) (.slice a9 n9 c9) V0):=Qd (by rw[hV0];exact AwR.kept D0.out (Ue (Xb _ _) 1));replace hHeld:=DB0.out;clear hV0 D0;refine wpAnyH_ready (rs:=[1,6]) (by kernel_rfl) (by simp) ?_;refine Xo rfl (fun KQ hKQ=>?_) (Xo rfl (fun KQ hKQ=>?_) AllReadyH.nil);rotate_right
  focus
   go_simp;refine hKQ.out _ _ (AwR.kept DB0.out ((Xb _ _).alloc (Xa _) _)) (fun hHeld0=>?_);clear hKQ KQ hHeld0;refine Ut fun wb1 hwb1=>?_
   have hba:Below V0.heap.size V0 wb1:=by rw[hwb1];exact(Xb _ _).alloc (Xa _) _
   have GZ0:∃Z,Box wb1 V0.heap.size 55 Z∧Z.size=345∧W2.heap.size≤V0.heap.size:=by rw[hwb1];exact⟨_,Box.new _ _ _,rfl,DB0.out.2.2.2.1⟩
   obtain⟨Z9,GZ0⟩:=GZ0;have hHeld:=AwR.kept DB0.out hba;have DB1:=Qd (AwR.kept DB0.out hba);have GL:Hid (V0.heap.size<wb1.heap.size):=Qd (GZ0.1.lt);have GZ:=Qd GZ0;clear hwb1 hba GZ0 DB0;generalize V0.heap.size=g9 at GZ GL ⊢;refine Qc 1 fun KQ hKQ=>?_
   go_simp;refine(KPL.out _).mono ?_;rintro e wb2 ⟨rfl,hb⟩;have DB2:=Qd (AwR.kept DB1.out hb);replace GZ:=Qd (Xc (GZ.out.1.kept hb) GZ.out.2);replace GL:=Qd (Xe GL.out (Xp hb));clear hb DB1;refine hKQ.out _ _ DB2.out (fun hHeld=>?_);clear hKQ KQ;refine Qc 2 fun KQ hKQ=>?_
   go_simp;refine(KT1.out _).mono ?_;rintro e wb3 ⟨v1,rfl,ho⟩;have hb:=Below.mono ho.below (Xa _);have DB3:=Qd (AwR.kept DB2.out hb);replace GZ:=Qd (Xc (GZ.out.1.kept hb) GZ.out.2);replace GL:=Qd (Xe GL.out (Xp hb));have PK1:Hid (PkX (fun _=>False) wb3 v1 p1):=Qd (ho.pk P1.out _ (fun _ h=>h.elim));clear ho hb DB2;have PK:=PK1;clear PK1;refine hKQ.out _ _ DB3.out (fun hHeld=>?_);clear hKQ KQ;refine Qc 3 fun KQ hKQ=>?_
   go_simp;refine(KT2.out _ _ PK.out).mono ?_;rintro e wb4 ⟨v2,rfl,ho⟩;have hb:=Below.mono ho.below (Xa _);have DB4:=Qd (AwR.kept DB3.out hb);replace GZ:=Qd (Xc (GZ.out.1.kept hb) GZ.out.2);replace GL:=Qd (Xe GL.out (Xp hb));have PK2:Hid (PkX (fun _=>False) wb4 v2 p2):=Qd (ho.pk P2.out _ (fun _ h=>h.elim));clear ho hb DB3 PK;have PK:=PK2;clear PK2;refine hKQ.out _ _ DB4.out (fun hHeld=>?_);clear hKQ KQ;refine Qc 4 fun KQ hKQ=>?_
   go_simp;refine(KT3.out _ _ PK.out).mono ?_;rintro e wb5 ⟨v3,rfl,ho⟩;have hb:=Below.mono ho.below (Xa _);have DB5:=Qd (AwR.kept DB4.out hb);replace GZ:=Qd (Xc (GZ.out.1.kept hb) GZ.out.2);replace GL:=Qd (Xe GL.out (Xp hb));have PK3:Hid (PkX (fun _=>False) wb5 v3 p3):=Qd (ho.pk P3.out _ (fun _ h=>h.elim));clear ho hb DB4 PK;have PK:=PK3;clear PK3;refine hKQ.out _ _ DB5.out (fun hHeld=>?_);clear hKQ KQ;refine Qc 5 fun KQ hKQ=>?_
   go_simp;refine(KRN.out (fun j=>W2.heap.size≤j∧j<wb5.heap.size) _ _ _ _ (DB5.out.2.1.mono (fun j hj=>hj.1)) (fun j hj=>hj.2) PK.out).mono ?_;rintro e wb6 ⟨R,rfl,hx,hb⟩;dsimp only[nv];have DB6:=Qd (AwR.kept DB5.out hb);replace GZ:=Qd (Xc (GZ.out.1.kept hb) GZ.out.2);obtain⟨n1,hn1⟩:∃n1,n1=wb5.heap.size:=⟨_,rfl⟩;obtain⟨n2,hn2⟩:∃n2,n2=wb6.heap.size:=⟨_,rfl⟩;have HV:Hid (BnX (fun j=>(W2.heap.size≤j∧j<n1)∨n2≤j) wb6 R Urh∧n2≤wb6.heap.size):=Qd (by rw[hn1,hn2];exact⟨hx.low,Xa _⟩);have HG:Hid ((W2.heap.size≤g9∧g9<n1)∨n2≤g9):=Qd (Or.inl ⟨GZ.out.2.2,by rw[hn1];exact GL.out⟩);clear hb hx hn1 hn2 PK DB5 GL;refine hKQ.out _ _ DB6.out (fun hHeld=>?_);clear hKQ KQ
  rotate_right
  focus
   go_simp;refine(KPL.out _).mono ?_;rintro e wb1 ⟨rfl,hb⟩;have DB1:=Qd (AwR.kept DB0.out hb);clear hb DB0;refine hKQ.out _ _ DB1.out (fun hHeld=>?_);clear hKQ KQ;refine wpAnyH_ready (rs:=[2,6]) (by kernel_rfl) (by simp) ?_;refine Xo rfl (fun KQ hKQ=>?_) (Xo rfl (fun KQ hKQ=>?_) AllReadyH.nil);rotate_right
   focus
    go_simp;refine hKQ.out _ _ (AwR.kept DB1.out ((Xb _ _).alloc (Xa _) _)) (fun hHeld0=>?_);clear hKQ KQ hHeld0;refine Ut fun wb2 hwb2=>?_
    have hba:Below wb1.heap.size wb1 wb2:=by rw[hwb2];exact(Xb _ _).alloc (Xa _) _
    have GZ0:∃Z,Box wb2 wb1.heap.size 55 Z∧Z.size=345∧W2.heap.size≤wb1.heap.size:=by rw[hwb2];exact⟨_,Box.new _ _ _,rfl,DB1.out.2.2.2.1⟩
    obtain⟨Z9,GZ0⟩:=GZ0;have hHeld:=AwR.kept DB1.out hba;have DB2:=Qd (AwR.kept DB1.out hba);have GL:Hid (wb1.heap.size<wb2.heap.size):=Qd (GZ0.1.lt);have GZ:=Qd GZ0;clear hwb2 hba GZ0 DB1;generalize wb1.heap.size=g9 at GZ GL ⊢;refine Qc 2 fun KQ hKQ=>?_
    go_simp;refine(KT1.out _).mono ?_;rintro e wb3 ⟨v1,rfl,ho⟩;have hb:=Below.mono ho.below (Xa _);have DB3:=Qd (AwR.kept DB2.out hb);replace GZ:=Qd (Xc (GZ.out.1.kept hb) GZ.out.2);replace GL:=Qd (Xe GL.out (Xp hb));have PK1:Hid (PkX (fun _=>False) wb3 v1 p1):=Qd (ho.pk P1.out _ (fun _ h=>h.elim));clear ho hb DB2;have PK:=PK1;clear PK1;refine hKQ.out _ _ DB3.out (fun hHeld=>?_);clear hKQ KQ;refine Qc 3 fun KQ hKQ=>?_
    go_simp;refine(KT2.out _ _ PK.out).mono ?_;rintro e wb4 ⟨v2,rfl,ho⟩;have hb:=Below.mono ho.below (Xa _);have DB4:=Qd (AwR.kept DB3.out hb);replace GZ:=Qd (Xc (GZ.out.1.kept hb) GZ.out.2);replace GL:=Qd (Xe GL.out (Xp hb));have PK2:Hid (PkX (fun _=>False) wb4 v2 p2):=Qd (ho.pk P2.out _ (fun _ h=>h.elim));clear ho hb DB3 PK;have PK:=PK2;clear PK2;refine hKQ.out _ _ DB4.out (fun hHeld=>?_);clear hKQ KQ;refine Qc 4 fun KQ hKQ=>?_
    go_simp;refine(KT3.out _ _ PK.out).mono ?_;rintro e wb5 ⟨v3,rfl,ho⟩;have hb:=Below.mono ho.below (Xa _);have DB5:=Qd (AwR.kept DB4.out hb);replace GZ:=Qd (Xc (GZ.out.1.kept hb) GZ.out.2);replace GL:=Qd (Xe GL.out (Xp hb));have PK3:Hid (PkX (fun _=>False) wb5 v3 p3):=Qd (ho.pk P3.out _ (fun _ h=>h.elim));clear ho hb DB4 PK;have PK:=PK3;clear PK3;refine hKQ.out _ _ DB5.out (fun hHeld=>?_);clear hKQ KQ;refine Qc 5 fun KQ hKQ=>?_
    go_simp;refine(KRN.out (fun j=>W2.heap.size≤j∧j<wb5.heap.size) _ _ _ _ (DB5.out.2.1.mono (fun j hj=>hj.1)) (fun j hj=>hj.2) PK.out).mono ?_;rintro e wb6 ⟨R,rfl,hx,hb⟩;dsimp only[nv];have DB6:=Qd (AwR.kept DB5.out hb);replace GZ:=Qd (Xc (GZ.out.1.kept hb) GZ.out.2);obtain⟨n1,hn1⟩:∃n1,n1=wb5.heap.size:=⟨_,rfl⟩;obtain⟨n2,hn2⟩:∃n2,n2=wb6.heap.size:=⟨_,rfl⟩;have HV:Hid (BnX (fun j=>(W2.heap.size≤j∧j<n1)∨n2≤j) wb6 R Urh∧n2≤wb6.heap.size):=Qd (by rw[hn1,hn2];exact⟨hx.low,Xa _⟩);have HG:Hid ((W2.heap.size≤g9∧g9<n1)∨n2≤g9):=Qd (Or.inl ⟨GZ.out.2.2,by rw[hn1];exact GL.out⟩);clear hb hx hn1 hn2 PK DB5 GL;refine hKQ.out _ _ DB6.out (fun hHeld=>?_);clear hKQ KQ
   rotate_right
   focus
    go_simp;refine(KT1.out _).mono ?_;rintro e wb2 ⟨v1,rfl,ho⟩;have hb:=Below.mono ho.below (Xa _);have DB2:=Qd (AwR.kept DB1.out hb);have PK1:Hid (PkX (fun _=>False) wb2 v1 p1):=Qd (ho.pk P1.out _ (fun _ h=>h.elim));clear ho hb DB1;have PK:=PK1;clear PK1;refine hKQ.out _ _ DB2.out (fun hHeld=>?_);clear hKQ KQ;refine wpAnyH_ready (rs:=[3,6]) (by kernel_rfl) (by simp) ?_;refine Xo rfl (fun KQ hKQ=>?_) (Xo rfl (fun KQ hKQ=>?_) AllReadyH.nil);rotate_right
    focus
     go_simp;refine hKQ.out _ _ (AwR.kept DB2.out ((Xb _ _).alloc (Xa _) _)) (fun hHeld0=>?_);clear hKQ KQ hHeld0;refine Ut fun wb3 hwb3=>?_
     have hba:Below wb2.heap.size wb2 wb3:=by rw[hwb3];exact(Xb _ _).alloc (Xa _) _
     have GZ0:∃Z,Box wb3 wb2.heap.size 55 Z∧Z.size=345∧W2.heap.size≤wb2.heap.size:=by rw[hwb3];exact⟨_,Box.new _ _ _,rfl,DB2.out.2.2.2.1⟩
     obtain⟨Z9,GZ0⟩:=GZ0;have hHeld:=AwR.kept DB2.out hba;have DB3:=Qd (AwR.kept DB2.out hba);replace PK:=Qd (PkX.below PK.out hba);have GL:Hid (wb2.heap.size<wb3.heap.size):=Qd (GZ0.1.lt);have GZ:=Qd GZ0;clear hwb3 hba GZ0 DB2;generalize wb2.heap.size=g9 at GZ GL ⊢;refine Qc 3 fun KQ hKQ=>?_
     go_simp;refine(KT2.out _ _ PK.out).mono ?_;rintro e wb4 ⟨v2,rfl,ho⟩;have hb:=Below.mono ho.below (Xa _);have DB4:=Qd (AwR.kept DB3.out hb);replace GZ:=Qd (Xc (GZ.out.1.kept hb) GZ.out.2);replace GL:=Qd (Xe GL.out (Xp hb));have PK2:Hid (PkX (fun _=>False) wb4 v2 p2):=Qd (ho.pk P2.out _ (fun _ h=>h.elim));clear ho hb DB3 PK;have PK:=PK2;clear PK2;refine hKQ.out _ _ DB4.out (fun hHeld=>?_);clear hKQ KQ;refine Qc 4 fun KQ hKQ=>?_
     go_simp;refine(KT3.out _ _ PK.out).mono ?_;rintro e wb5 ⟨v3,rfl,ho⟩;have hb:=Below.mono ho.below (Xa _);have DB5:=Qd (AwR.kept DB4.out hb);replace GZ:=Qd (Xc (GZ.out.1.kept hb) GZ.out.2);replace GL:=Qd (Xe GL.out (Xp hb));have PK3:Hid (PkX (fun _=>False) wb5 v3 p3):=Qd (ho.pk P3.out _ (fun _ h=>h.elim));clear ho hb DB4 PK;have PK:=PK3;clear PK3;refine hKQ.out _ _ DB5.out (fun hHeld=>?_);clear hKQ KQ;refine Qc 5 fun KQ hKQ=>?_
     go_simp;refine(KRN.out (fun j=>W2.heap.size≤j∧j<wb5.heap.size) _ _ _ _ (DB5.out.2.1.mono (fun j hj=>hj.1)) (fun j hj=>hj.2) PK.out).mono ?_;rintro e wb6 ⟨R,rfl,hx,hb⟩;dsimp only[nv];have DB6:=Qd (AwR.kept DB5.out hb);replace GZ:=Qd (Xc (GZ.out.1.kept hb) GZ.out.2);obtain⟨n1,hn1⟩:∃n1,n1=wb5.heap.size:=⟨_,rfl⟩;obtain⟨n2,hn2⟩:∃n2,n2=wb6.heap.size:=⟨_,rfl⟩;have HV:Hid (BnX (fun j=>(W2.heap.size≤j∧j<n1)∨n2≤j) wb6 R Urh∧n2≤wb6.heap.size):=Qd (by rw[hn1,hn2];exact⟨hx.low,Xa _⟩);have HG:Hid ((W2.heap.size≤g9∧g9<n1)∨n2≤g9):=Qd (Or.inl ⟨GZ.out.2.2,by rw[hn1];exact GL.out⟩);clear hb hx hn1 hn2 PK DB5 GL;refine hKQ.out _ _ DB6.out (fun hHeld=>?_);clear hKQ KQ
    rotate_right
    focus
     go_simp;refine(KT2.out _ _ PK.out).mono ?_;rintro e wb3 ⟨v2,rfl,ho⟩;have hb:=Below.mono ho.below (Xa _);have DB3:=Qd (AwR.kept DB2.out hb);have PK2:Hid (PkX (fun _=>False) wb3 v2 p2):=Qd (ho.pk P2.out _ (fun _ h=>h.elim));clear ho hb DB2 PK;have PK:=PK2;clear PK2;refine hKQ.out _ _ DB3.out (fun hHeld=>?_);clear hKQ KQ;refine wpAnyH_ready (rs:=[4,6]) (by kernel_rfl) (by simp) ?_;refine Xo rfl (fun KQ hKQ=>?_) (Xo rfl (fun KQ hKQ=>?_) AllReadyH.nil);rotate_right
     focus
      go_simp;refine hKQ.out _ _ (AwR.kept DB3.out ((Xb _ _).alloc (Xa _) _)) (fun hHeld0=>?_);clear hKQ KQ hHeld0;refine Ut fun wb4 hwb4=>?_
      have hba:Below wb3.heap.size wb3 wb4:=by rw[hwb4];exact(Xb _ _).alloc (Xa _) _
      have GZ0:∃Z,Box wb4 wb3.heap.size 55 Z∧Z.size=345∧W2.heap.size≤wb3.heap.size:=by rw[hwb4];exact⟨_,Box.new _ _ _,rfl,DB3.out.2.2.2.1⟩
      obtain⟨Z9,GZ0⟩:=GZ0;have hHeld:=AwR.kept DB3.out hba;have DB4:=Qd (AwR.kept DB3.out hba);replace PK:=Qd (PkX.below PK.out hba);have GL:Hid (wb3.heap.size<wb4.heap.size):=Qd (GZ0.1.lt);have GZ:=Qd GZ0;clear hwb4 hba GZ0 DB3;generalize wb3.heap.size=g9 at GZ GL ⊢;refine Qc 4 fun KQ hKQ=>?_
      go_simp;refine(KT3.out _ _ PK.out).mono ?_;rintro e wb5 ⟨v3,rfl,ho⟩;have hb:=Below.mono ho.below (Xa _);have DB5:=Qd (AwR.kept DB4.out hb);replace GZ:=Qd (Xc (GZ.out.1.kept hb) GZ.out.2);replace GL:=Qd (Xe GL.out (Xp hb));have PK3:Hid (PkX (fun _=>False) wb5 v3 p3):=Qd (ho.pk P3.out _ (fun _ h=>h.elim));clear ho hb DB4 PK;have PK:=PK3;clear PK3;refine hKQ.out _ _ DB5.out (fun hHeld=>?_);clear hKQ KQ;refine Qc 5 fun KQ hKQ=>?_
      go_simp;refine(KRN.out (fun j=>W2.heap.size≤j∧j<wb5.heap.size) _ _ _ _ (DB5.out.2.1.mono (fun j hj=>hj.1)) (fun j hj=>hj.2) PK.out).mono ?_;rintro e wb6 ⟨R,rfl,hx,hb⟩;dsimp only[nv];have DB6:=Qd (AwR.kept DB5.out hb);replace GZ:=Qd (Xc (GZ.out.1.kept hb) GZ.out.2);obtain⟨n1,hn1⟩:∃n1,n1=wb5.heap.size:=⟨_,rfl⟩;obtain⟨n2,hn2⟩:∃n2,n2=wb6.heap.size:=⟨_,rfl⟩;have HV:Hid (BnX (fun j=>(W2.heap.size≤j∧j<n1)∨n2≤j) wb6 R Urh∧n2≤wb6.heap.size):=Qd (by rw[hn1,hn2];exact⟨hx.low,Xa _⟩);have HG:Hid ((W2.heap.size≤g9∧g9<n1)∨n2≤g9):=Qd (Or.inl ⟨GZ.out.2.2,by rw[hn1];exact GL.out⟩);clear hb hx hn1 hn2 PK DB5 GL;refine hKQ.out _ _ DB6.out (fun hHeld=>?_);clear hKQ KQ
     rotate_right
     focus
      go_simp;refine(KT3.out _ _ PK.out).mono ?_;rintro e wb4 ⟨v3,rfl,ho⟩;have hb:=Below.mono ho.below (Xa _);have DB4:=Qd (AwR.kept DB3.out hb);have PK3:Hid (PkX (fun _=>False) wb4 v3 p3):=Qd (ho.pk P3.out _ (fun _ h=>h.elim));clear ho hb DB3 PK;have PK:=PK3;clear PK3;refine hKQ.out _ _ DB4.out (fun hHeld=>?_);clear hKQ KQ;refine wpAnyH_ready (rs:=[5,6]) (by kernel_rfl) (by simp) ?_;refine Xo rfl (fun KQ hKQ=>?_) (Xo rfl (fun KQ hKQ=>?_) AllReadyH.nil);rotate_right
      focus
       go_simp;refine hKQ.out _ _ (AwR.kept DB4.out ((Xb _ _).alloc (Xa _) _)) (fun hHeld0=>?_);clear hKQ KQ hHeld0;refine Ut fun wb5 hwb5=>?_
       have hba:Below wb4.heap.size wb4 wb5:=by rw[hwb5];exact(Xb _ _).alloc (Xa _) _
       have GZ0:∃Z,Box wb5 wb4.heap.size 55 Z∧Z.size=345∧W2.heap.size≤wb4.heap.size:=by rw[hwb5];exact⟨_,Box.new _ _ _,rfl,DB4.out.2.2.2.1⟩
       obtain⟨Z9,GZ0⟩:=GZ0;have hHeld:=AwR.kept DB4.out hba;have DB5:=Qd (AwR.kept DB4.out hba);replace PK:=Qd (PkX.below PK.out hba);have GL:Hid (wb4.heap.size<wb5.heap.size):=Qd (GZ0.1.lt);have GZ:=Qd GZ0;clear hwb5 hba GZ0 DB4;generalize wb4.heap.size=g9 at GZ GL ⊢;refine Qc 5 fun KQ hKQ=>?_
       go_simp;refine(KRN.out (fun j=>W2.heap.size≤j∧j<wb5.heap.size) _ _ _ _ (DB5.out.2.1.mono (fun j hj=>hj.1)) (fun j hj=>hj.2) PK.out).mono ?_;rintro e wb6 ⟨R,rfl,hx,hb⟩;dsimp only[nv];have DB6:=Qd (AwR.kept DB5.out hb);replace GZ:=Qd (Xc (GZ.out.1.kept hb) GZ.out.2);obtain⟨n1,hn1⟩:∃n1,n1=wb5.heap.size:=⟨_,rfl⟩;obtain⟨n2,hn2⟩:∃n2,n2=wb6.heap.size:=⟨_,rfl⟩;have HV:Hid (BnX (fun j=>(W2.heap.size≤j∧j<n1)∨n2≤j) wb6 R Urh∧n2≤wb6.heap.size):=Qd (by rw[hn1,hn2];exact⟨hx.low,Xa _⟩);have HG:Hid ((W2.heap.size≤g9∧g9<n1)∨n2≤g9):=Qd (Or.inl ⟨GZ.out.2.2,by rw[hn1];exact GL.out⟩);clear hb hx hn1 hn2 PK DB5 GL;refine hKQ.out _ _ DB6.out (fun hHeld=>?_);clear hKQ KQ
      rotate_right
      focus
       go_simp;refine(KRN.out (fun j=>W2.heap.size≤j∧j<wb4.heap.size) _ _ _ _ (DB4.out.2.1.mono (fun j hj=>hj.1)) (fun j hj=>hj.2) PK.out).mono ?_;rintro e wb5 ⟨R,rfl,hx,hb⟩;dsimp only[nv];have DB5:=Qd (AwR.kept DB4.out hb);obtain⟨n1,hn1⟩:∃n1,n1=wb4.heap.size:=⟨_,rfl⟩;obtain⟨n2,hn2⟩:∃n2,n2=wb5.heap.size:=⟨_,rfl⟩;have HV:Hid (BnX (fun j=>(W2.heap.size≤j∧j<n1)∨n2≤j) wb5 R Urh∧n2≤wb5.heap.size):=Qd (by rw[hn1,hn2];exact⟨hx.low,Xa _⟩);clear hb hx hn1 hn2 PK DB4;refine hKQ.out _ _ DB5.out (fun hHeld=>?_);clear hKQ KQ;refine Qc 6 fun KQ hKQ=>?_
       go_simp;refine hKQ.out _ _ (AwR.kept DB5.out ((Xb _ _).alloc (Xa _) _)) (fun hHeld0=>?_);clear hKQ KQ hHeld0;refine Ut fun wb6 hwb6=>?_
       have hba:Below wb5.heap.size wb5 wb6:=by rw[hwb6];exact(Xb _ _).alloc (Xa _) _
       have GZ0:∃Z,Box wb6 wb5.heap.size 55 Z∧Z.size=345∧W2.heap.size≤wb5.heap.size:=by rw[hwb6];exact⟨_,Box.new _ _ _,rfl,DB5.out.2.2.2.1⟩
       obtain⟨Z9,GZ0⟩:=GZ0;have hHeld:=AwR.kept DB5.out hba;have DB6:=Qd (AwR.kept DB5.out hba);have HG:Hid ((W2.heap.size≤wb5.heap.size∧wb5.heap.size<n1)∨n2≤wb5.heap.size):=Qd (Or.inr HV.out.2);replace HV:=Qd (Xc (HV.out.1.chg (Chg.of hba)) (Xd HV.out.2 hba.size));have GZ:=Qd GZ0;clear hwb6 hba GZ0 DB5;generalize wb5.heap.size=g9 at GZ HG ⊢
  all_goals
   refine Qc 7 fun KQ hKQ=>?_
   rw[if_pos (by rfl)];refine wp_store_mid 55 _ _ rfl g9 0 (ncs Urh R) rfl rfl (GZ.out.1.thereAll (by rw[GZ.out.2.1];exact(Z5 (HV.out.1.lens Ufd)).symm)) (Uaw HV.out.1 Ufd) (Ugq HV.out.1) ?_;refine Uh6 fun W8 hW8=>?_
   have FZ8:Hid (Box W8 g9 55 (ncs Urh R)∧BnX (fun j=>j=g9) W8 R Urh∧AwR w W2.heap.size g1 (.slice (some ⟨g0,0,none⟩) 1 1) (.slice a9 n9 c9) W8):=Qd (by
    have hc:Chg (fun j=>j=g9) wb6 W8:=by rw[hW8];exact Chg.setCells (X:=fun j=>j=g9) rfl _ _
    have hbx:Box W8 g9 55 (ncs Urh R):=by rw[hW8];exact GZ.out.1.setCells_all (by rw[Array.length_toList,GZ.out.2.1];exact Z5 (HV.out.1.lens Ufd))
    exact⟨hbx,(HV.out.1.chg (hc.mono (fun _ _ e=>by rw[e];exact HG.out))).mono (fun j e=>by rw[e];exact HG.out),AwR.far DB6.out hc GZ.out.2.2⟩)
   clear hW8 DB6 HV GZ HG;go_simp;refine hKQ.out _ _ FZ8.out.2.2 (fun hHeld=>?_);clear hKQ KQ;refine Xl (by kernel_rfl) ?_ _;go_wp2_with fail;go_meet
   case rel=>exact⟨g9,R,rfl,FZ8⟩
 case rest =>
  obtain⟨g,R,rfl,FZ⟩:=hcut;have KRD:Hid (∃tv,Calls prog 9 #[.agg (ncs Urh R),.int .i64 0] wc (Ub (.tuple #[.int .i64 tv,.agg xA.cells,.bool true]) wc)):=Qd ⟨_,Ul1 (r:=0) FZ.out.2.1 Ufd (by omega) U6s U1n Uxm Uxn⟩;have SB:=Qd (Uaw FZ.out.2.1 Ufd);obtain⟨tv,krd⟩:=KRD.out;have KR1:=Qd krd;clear krd KRD;have SX:Hid ((prog.info? 52).map (·.size)=some xA.cells.size∧xA.cells.all (·.oneCell')=true∧xA.cells[11]? = some (.int .i64 4293918985)∧xA.cells.size=29):=Qd ⟨Yj,Sta.one _,rfl,rfl⟩;have HQ:=Upg xA;have KSN:Hid (∀W,Calls prog 10 #[.agg xA.cells] W (Ub (.bool true) W)):=Qd (fun W=>by have:=Ucr xA W;rwa [Xi U1n] at this);dsimp only[stv] at HQ;obtain⟨xl,hxl⟩:∃l,xA.list=l:=⟨_,rfl⟩;have exl:xA.cells=xl.toArray:=by rw[←hxl];rfl
  rw[exl] at KR1 SX HQ KSN;have HXL:=Qd hxl;clear exl hxl;go_wp2_with (with_reducible first|refine Qk 24 ?_|refine Qk 40 ?_|refine Qk 23 ?_|refine Qh 23 ?_|refine Qg 55 ?_|refine Qh 52 ?_|refine Qg 52 ?_);refine Uo.go g rfl FZ.out.1 underlying55 rfl SB.out ?_;go_wp2_with fail;refine KR1.out.mono ?_;rintro e w3 ⟨rfl,hb⟩;have D3:=Qd (AwR.kept FZ.out.2.2 hb);clear hb KR1 FZ SB;go_wp2_with (with_reducible first|refine Qk 24 ?_|refine Qk 40 ?_|refine Qk 23 ?_|refine Qh 23 ?_|refine Qg 55 ?_|refine Qh 52 ?_|refine Qg 52 ?_);refine Uf.go w3.heap.size rfl rfl (Box.new _ _ _) SX.out.1 (by rw[SX.out.2.2.2];rfl) SX.out.2.1 ?_;go_upto_region 4 with fail
  refine Uq fun W4 hW4=>?_
  have D4:Hid (AwR w W2.heap.size g1 (.slice (some ⟨g0,0,none⟩) 1 1) (.slice a9 n9 c9) W4∧Box W4 w3.heap.size 52 xl.toArray):=Qd (by
   have hb:Below w3.heap.size w3 W4:=by rw[hW4];exact Uc ((Xb _ w3).alloc (Xa _) _) (Xa _) _
   exact⟨AwR.kept D3.out hb,by rw[hW4];exact(Box.new _ _ _).row _⟩)
  have HN4:Hid (W2.heap.size≤W4.heap.size∧w3.heap.size<W4.heap.size∧w.heap.size≤W4.heap.size):=Qd ⟨D4.out.1.2.2.2.1,D4.out.2.lt,D4.out.1.2.2.1.size⟩;clear hW4 D3;generalize w3.heap.size=g4 at *;go_cut [6] (fun p wx=>∃g rs vs,p = .pointer (some ⟨g,0,none⟩)∧Hid (Box wx g 63 (bcs U3x rs vs)∧BrX (fun j=>j=g) wx rs vs U3x∧Box wx g4 52 xl.toArray∧Below w.heap.size w wx))
  case first =>
   have KNEW:Hid (∀W,Calls prog 11 #[] W (Ub (bv Ujj Yr Yr) W)):=Qd (fun W=>Uq5 W)
   have KBR:Hid (∀X W v,(∀j,X j→j<W.heap.size)→Ulz X W v (U63 (.slice a9 n9 c9))→Calls prog 13 #[bv Ujj Yr Yr,.agg pc,v] W (Umo X U3x id W)):=Qd (fun X W v h1 h2=>by
    rw[←HPC.out]
    exact Uq7 Uak (U63 (.slice a9 n9 c9)) (by show 2≤1000;omega) (Uq4 X W) h1 (U6t _) h2)
   generalize bv Ujj Yr Yr=vb0 at *;refine Xm (S:=fun W=>(AwR w W2.heap.size g1 (.slice (some ⟨g0,0,none⟩) 1 1) (.slice a9 n9 c9) W∧Box W g4 52 xl.toArray∧W4.heap.size≤W.heap.size)) (by kernel_rfl) ⟨AwR.kept D4.out.1 (Ue (Xb _ _) 1),D4.out.2.drew,Xa _⟩ (fun hHeld=>?_);refine Qn 2 (.pointer (some ⟨g1,2,none⟩)) ?_;refine Qe 3 (.slice (some ⟨g0,0,none⟩) 1 1) (fun w hW=>?_) ?_
   ·have x1:=hW.1.1.cell 2;go_simp
   simp only[Qz];refine Qn 4 (.pointer (some ⟨g0,0,none⟩)) ?_;refine Qe 5 (.slice a9 n9 c9) (fun w hW=>?_) ?_
   ·have x1:=U30 hW.1.2.1.2.1;go_simp
   simp only[Qz];refine Qe 6 (.agg #[.bool false,.int .i64 2,.int .i64 0,.slice a9 n9 c9]) (fun w hW=>?_) ?_
   ·kernel_rfl
   simp only[Qz];refine Qe 7 (.agg #[.bool true,.int .i64 0,.int .i64 3,.slice none 0 0]) (fun w hW=>?_) ?_
   ·kernel_rfl
   simp only[Qz];refine Ut fun V0 hV0=>?_
   have DB0:Hid (AwR w W2.heap.size g1 (.slice (some ⟨g0,0,none⟩) 1 1) (.slice a9 n9 c9) V0∧Box V0 g4 52 xl.toArray∧W4.heap.size≤V0.heap.size):=Qd (by rw[hV0];exact⟨AwR.kept D4.out.1 (Ue (Xb _ _) 1),D4.out.2.drew,Xa _⟩);replace hHeld:=DB0.out;clear hV0 D4;refine wpAnyH_ready (rs:=[0,8,10]) (by kernel_rfl) (by simp) ?_;refine Xo rfl (fun KQ hKQ=>?_) (Xo rfl (fun KQ hKQ=>?_) (Xo rfl (fun KQ hKQ=>?_) AllReadyH.nil));rotate_right
   focus
    go_simp;refine hKQ.out _ _ (Xc (AwR.kept DB0.out.1 ((Xb _ V0).alloc (Xa _) _)) (Xc (DB0.out.2.1.kept ((Xb _ V0).alloc (Xa _) _)) (Xd DB0.out.2.2 (Xp ((Xb _ V0).alloc (Xa _) _))))) (fun hHeld0=>?_);clear hKQ KQ hHeld0;refine Ut fun wb1 hwb1=>?_
    have hba:Below V0.heap.size V0 wb1:=by rw[hwb1];exact(Xb _ _).alloc (Xa _) _
    have GZ0:∃Z,Box wb1 V0.heap.size 63 Z∧Z.size=57∧W4.heap.size≤V0.heap.size∧W2.heap.size≤V0.heap.size:=by rw[hwb1];exact⟨_,Box.new _ _ _,rfl,DB0.out.2.2,DB0.out.1.2.2.2.1⟩
    obtain⟨Z9,GZ0⟩:=GZ0;have hHeld:=Xc (AwR.kept DB0.out.1 hba) (Xc (DB0.out.2.1.kept hba) (Xd DB0.out.2.2 (Xp hba)));have DB1:=Qd (Xc (AwR.kept DB0.out.1 hba) (Xc (DB0.out.2.1.kept hba) (Xd DB0.out.2.2 (Xp hba))));have GL:Hid (V0.heap.size<wb1.heap.size):=Qd (GZ0.1.lt);have GZ:=Qd GZ0;clear hwb1 hba GZ0 DB0;generalize V0.heap.size=g9 at GZ GL ⊢;refine wpAnyH_ready (rs:=[0,8]) (by kernel_rfl) (by simp) ?_;refine Xo rfl (fun KQ hKQ=>?_) (Xo rfl (fun KQ hKQ=>?_) AllReadyH.nil);rotate_right
    focus
     have hbd:=Ubq a9 n9 c9;go_simp;refine hKQ.out _ _ (Xc (AwR.kept DB1.out.1 ((Xb _ wb1).alloc (Xa _) _)) (Xc (DB1.out.2.1.kept ((Xb _ wb1).alloc (Xa _) _)) (Xd DB1.out.2.2 (Xp ((Xb _ wb1).alloc (Xa _) _))))) (fun hHeld0=>?_);clear hKQ KQ hHeld0 hbd;refine Ut fun wb2 hwb2=>?_
     have hba:Below wb1.heap.size wb1 wb2:=by rw[hwb2];exact(Xb _ _).alloc (Xa _) _
     have hrb:Box wb2 wb1.heap.size 69 (Uci (.slice a9 n9 c9) 3):=by rw[hwb2];exact Box.new _ _ _
     have hHeld:=Xc (AwR.kept DB1.out.1 hba) (Xc (DB1.out.2.1.kept hba) (Xd DB1.out.2.2 (Xp hba)));have DB2:=Qd (Xc (AwR.kept DB1.out.1 hba) (Xc (DB1.out.2.1.kept hba) (Xd DB1.out.2.2 (Xp hba))));replace GZ:=Qd (Xc (GZ.out.1.kept hba) GZ.out.2);have HNE:Hid (wb1.heap.size≠g9):=Qd (fun e=>by have h1:=GL.out;omega);replace GL:=Qd (Xe GL.out (Xp hba));have RB:=Qd hrb;clear hwb2 hba hrb DB1;generalize wb1.heap.size=gr at RB HNE ⊢;refine Qc 0 fun KQ hKQ=>?_
     go_simp;refine(KNEW.out _).mono ?_;rintro e wb3 ⟨rfl,hb⟩;have DB3:=Qd (Xc (AwR.kept DB2.out.1 hb) (Xc (DB2.out.2.1.kept hb) (Xd DB2.out.2.2 (Xp hb))))
    rotate_right
    focus
     go_simp;refine(KNEW.out _).mono ?_;rintro e wb2 ⟨rfl,hb⟩;have DB2:=Qd (Xc (AwR.kept DB1.out.1 hb) (Xc (DB1.out.2.1.kept hb) (Xd DB1.out.2.2 (Xp hb))))
    all_goals
     replace GL:=Qd (Xe GL.out (Xp hb));replace GZ:=Qd (Xc (GZ.out.1.kept hb) GZ.out.2)
    rotate_right
    focus
     replace RB:=Qd (RB.out.kept hb);clear hb DB2;refine hKQ.out _ _ DB3.out (fun hHeld=>?_);clear hKQ KQ;refine Qc 1 fun KQ hKQ=>?_
     go_simp;refine(KPL.out _).mono ?_;rintro e wb4 ⟨rfl,hb⟩;have DB4:=Qd (Xc (AwR.kept DB3.out.1 hb) (Xc (DB3.out.2.1.kept hb) (Xd DB3.out.2.2 (Xp hb))));replace GL:=Qd (Xe GL.out (Xp hb));replace GZ:=Qd (Xc (GZ.out.1.kept hb) GZ.out.2);replace RB:=Qd (RB.out.kept hb);clear hb DB3;refine hKQ.out _ _ DB4.out (fun hHeld=>?_);clear hKQ KQ
    rotate_right
    focus
     clear hb DB1;refine hKQ.out _ _ DB2.out (fun hHeld=>?_);clear hKQ KQ;refine wpAnyH_ready (rs:=[1,8]) (by kernel_rfl) (by simp) ?_;refine Xo rfl (fun KQ hKQ=>?_) (Xo rfl (fun KQ hKQ=>?_) AllReadyH.nil);rotate_right
     focus
      have hbd:=Ubq a9 n9 c9;go_simp;refine hKQ.out _ _ (Xc (AwR.kept DB2.out.1 ((Xb _ wb2).alloc (Xa _) _)) (Xc (DB2.out.2.1.kept ((Xb _ wb2).alloc (Xa _) _)) (Xd DB2.out.2.2 (Xp ((Xb _ wb2).alloc (Xa _) _))))) (fun hHeld0=>?_);clear hKQ KQ hHeld0 hbd;refine Ut fun wb3 hwb3=>?_
      have hba:Below wb2.heap.size wb2 wb3:=by rw[hwb3];exact(Xb _ _).alloc (Xa _) _
      have hrb:Box wb3 wb2.heap.size 69 (Uci (.slice a9 n9 c9) 3):=by rw[hwb3];exact Box.new _ _ _
      have hHeld:=Xc (AwR.kept DB2.out.1 hba) (Xc (DB2.out.2.1.kept hba) (Xd DB2.out.2.2 (Xp hba)));have DB3:=Qd (Xc (AwR.kept DB2.out.1 hba) (Xc (DB2.out.2.1.kept hba) (Xd DB2.out.2.2 (Xp hba))));replace GZ:=Qd (Xc (GZ.out.1.kept hba) GZ.out.2);have HNE:Hid (wb2.heap.size≠g9):=Qd (fun e=>by have h1:=GL.out;omega);replace GL:=Qd (Xe GL.out (Xp hba));have RB:=Qd hrb;clear hwb3 hba hrb DB2;generalize wb2.heap.size=gr at RB HNE ⊢;refine Qc 1 fun KQ hKQ=>?_
      go_simp;refine(KPL.out _).mono ?_;rintro e wb4 ⟨rfl,hb⟩;have DB4:=Qd (Xc (AwR.kept DB3.out.1 hb) (Xc (DB3.out.2.1.kept hb) (Xd DB3.out.2.2 (Xp hb))));replace GL:=Qd (Xe GL.out (Xp hb));replace GZ:=Qd (Xc (GZ.out.1.kept hb) GZ.out.2);replace RB:=Qd (RB.out.kept hb);clear hb DB3;refine hKQ.out _ _ DB4.out (fun hHeld=>?_);clear hKQ KQ
     rotate_right
     focus
      go_simp;refine(KPL.out _).mono ?_;rintro e wb3 ⟨rfl,hb⟩;have DB3:=Qd (Xc (AwR.kept DB2.out.1 hb) (Xc (DB2.out.2.1.kept hb) (Xd DB2.out.2.2 (Xp hb))));replace GL:=Qd (Xe GL.out (Xp hb));replace GZ:=Qd (Xc (GZ.out.1.kept hb) GZ.out.2);clear hb DB2;refine hKQ.out _ _ DB3.out (fun hHeld=>?_);clear hKQ KQ;refine Qc 8 fun KQ hKQ=>?_
      have hbd:=Ubq a9 n9 c9;go_simp;refine hKQ.out _ _ (Xc (AwR.kept DB3.out.1 ((Xb _ wb3).alloc (Xa _) _)) (Xc (DB3.out.2.1.kept ((Xb _ wb3).alloc (Xa _) _)) (Xd DB3.out.2.2 (Xp ((Xb _ wb3).alloc (Xa _) _))))) (fun hHeld0=>?_);clear hKQ KQ hHeld0 hbd;refine Ut fun wb4 hwb4=>?_
      have hba:Below wb3.heap.size wb3 wb4:=by rw[hwb4];exact(Xb _ _).alloc (Xa _) _
      have hrb:Box wb4 wb3.heap.size 69 (Uci (.slice a9 n9 c9) 3):=by rw[hwb4];exact Box.new _ _ _
      have hHeld:=Xc (AwR.kept DB3.out.1 hba) (Xc (DB3.out.2.1.kept hba) (Xd DB3.out.2.2 (Xp hba)));have DB4:=Qd (Xc (AwR.kept DB3.out.1 hba) (Xc (DB3.out.2.1.kept hba) (Xd DB3.out.2.2 (Xp hba))));replace GZ:=Qd (Xc (GZ.out.1.kept hba) GZ.out.2);have HNE:Hid (wb3.heap.size≠g9):=Qd (fun e=>by have h1:=GL.out;omega);replace GL:=Qd (Xe GL.out (Xp hba));have RB:=Qd hrb;clear hwb4 hba hrb DB3;generalize wb3.heap.size=gr at RB HNE ⊢
    all_goals
     refine Qc 9 fun KQ hKQ=>?_
     go_simp;refine(KBR.out (fun j=>j=g9) _ _ (fun j hj=>by rw[hj];exact GL.out) (Uef RB.out (fun h=>HNE.out h) ((DB4.out.1.2.1.2.2.2 0 (by simp)).mono (fun j hj=>by rw[hj];exact GZ.out.2.2.2)))).mono ?_;rintro e wb5 ⟨rs,vs,rfl,hx,hb⟩;dsimp only[id,bv];have DB5:=Qd (Xc (AwR.kept DB4.out.1 hb) (Xc (DB4.out.2.1.kept hb) (Xd DB4.out.2.2 (Xp hb))));replace GZ:=Qd (Xc (GZ.out.1.kept hb) GZ.out.2);clear RB;have HV:=Qd hx;clear hb hx DB4 GL;refine hKQ.out _ _ DB5.out (fun hHeld=>?_);clear hKQ KQ
   rotate_right
   focus
    have hbd:=Ubq a9 n9 c9;go_simp;refine hKQ.out _ _ (Xc (AwR.kept DB0.out.1 ((Xb _ V0).alloc (Xa _) _)) (Xc (DB0.out.2.1.kept ((Xb _ V0).alloc (Xa _) _)) (Xd DB0.out.2.2 (Xp ((Xb _ V0).alloc (Xa _) _))))) (fun hHeld0=>?_);clear hKQ KQ hHeld0 hbd;refine Ut fun wb1 hwb1=>?_
    have hba:Below V0.heap.size V0 wb1:=by rw[hwb1];exact(Xb _ _).alloc (Xa _) _
    have hrb:Box wb1 V0.heap.size 69 (Uci (.slice a9 n9 c9) 3):=by rw[hwb1];exact Box.new _ _ _
    have hHeld:=Xc (AwR.kept DB0.out.1 hba) (Xc (DB0.out.2.1.kept hba) (Xd DB0.out.2.2 (Xp hba)));have DB1:=Qd (Xc (AwR.kept DB0.out.1 hba) (Xc (DB0.out.2.1.kept hba) (Xd DB0.out.2.2 (Xp hba))));have HRL:Hid (V0.heap.size<wb1.heap.size):=Qd hrb.lt;have RB:=Qd hrb;clear hwb1 hba hrb DB0;generalize V0.heap.size=gr at RB HRL ⊢;refine wpAnyH_ready (rs:=[0,10]) (by kernel_rfl) (by simp) ?_;refine Xo rfl (fun KQ hKQ=>?_) (Xo rfl (fun KQ hKQ=>?_) AllReadyH.nil);rotate_right
    focus
     go_simp;refine hKQ.out _ _ (Xc (AwR.kept DB1.out.1 ((Xb _ wb1).alloc (Xa _) _)) (Xc (DB1.out.2.1.kept ((Xb _ wb1).alloc (Xa _) _)) (Xd DB1.out.2.2 (Xp ((Xb _ wb1).alloc (Xa _) _))))) (fun hHeld0=>?_);clear hKQ KQ hHeld0;refine Ut fun wb2 hwb2=>?_
     have hba:Below wb1.heap.size wb1 wb2:=by rw[hwb2];exact(Xb _ _).alloc (Xa _) _
     have GZ0:∃Z,Box wb2 wb1.heap.size 63 Z∧Z.size=57∧W4.heap.size≤wb1.heap.size∧W2.heap.size≤wb1.heap.size:=by rw[hwb2];exact⟨_,Box.new _ _ _,rfl,DB1.out.2.2,DB1.out.1.2.2.2.1⟩
     obtain⟨Z9,GZ0⟩:=GZ0;have hHeld:=Xc (AwR.kept DB1.out.1 hba) (Xc (DB1.out.2.1.kept hba) (Xd DB1.out.2.2 (Xp hba)));have DB2:=Qd (Xc (AwR.kept DB1.out.1 hba) (Xc (DB1.out.2.1.kept hba) (Xd DB1.out.2.2 (Xp hba))));replace RB:=Qd (RB.out.kept hba);have GL:Hid (wb1.heap.size<wb2.heap.size):=Qd (GZ0.1.lt);have HNE:Hid (gr≠wb1.heap.size):=Qd (fun e=>by have h1:=HRL.out;omega);have GZ:=Qd GZ0;clear hwb2 hba GZ0 DB1;generalize wb1.heap.size=g9 at GZ GL HNE ⊢;refine Qc 0 fun KQ hKQ=>?_
     go_simp;refine(KNEW.out _).mono ?_;rintro e wb3 ⟨rfl,hb⟩;have DB3:=Qd (Xc (AwR.kept DB2.out.1 hb) (Xc (DB2.out.2.1.kept hb) (Xd DB2.out.2.2 (Xp hb))));replace GL:=Qd (Xe GL.out (Xp hb));replace GZ:=Qd (Xc (GZ.out.1.kept hb) GZ.out.2);replace RB:=Qd (RB.out.kept hb);clear hb DB2;refine hKQ.out _ _ DB3.out (fun hHeld=>?_);clear hKQ KQ;refine Qc 1 fun KQ hKQ=>?_
     go_simp;refine(KPL.out _).mono ?_;rintro e wb4 ⟨rfl,hb⟩;have DB4:=Qd (Xc (AwR.kept DB3.out.1 hb) (Xc (DB3.out.2.1.kept hb) (Xd DB3.out.2.2 (Xp hb))));replace GL:=Qd (Xe GL.out (Xp hb));replace GZ:=Qd (Xc (GZ.out.1.kept hb) GZ.out.2);replace RB:=Qd (RB.out.kept hb);clear hb DB3;refine hKQ.out _ _ DB4.out (fun hHeld=>?_);clear hKQ KQ;refine Qc 9 fun KQ hKQ=>?_
     go_simp;refine(KBR.out (fun j=>j=g9) _ _ (fun j hj=>by rw[hj];exact GL.out) (Uef RB.out (fun h=>HNE.out h) ((DB4.out.1.2.1.2.2.2 0 (by simp)).mono (fun j hj=>by rw[hj];exact GZ.out.2.2.2)))).mono ?_;rintro e wb5 ⟨rs,vs,rfl,hx,hb⟩;dsimp only[id,bv];have DB5:=Qd (Xc (AwR.kept DB4.out.1 hb) (Xc (DB4.out.2.1.kept hb) (Xd DB4.out.2.2 (Xp hb))));replace GZ:=Qd (Xc (GZ.out.1.kept hb) GZ.out.2);clear RB;have HV:=Qd hx;clear hb hx DB4 GL;refine hKQ.out _ _ DB5.out (fun hHeld=>?_);clear hKQ KQ
    rotate_right
    focus
     go_simp;refine(KNEW.out _).mono ?_;rintro e wb2 ⟨rfl,hb⟩;have DB2:=Qd (Xc (AwR.kept DB1.out.1 hb) (Xc (DB1.out.2.1.kept hb) (Xd DB1.out.2.2 (Xp hb))));replace HRL:=Qd (Xe HRL.out (Xp hb));replace RB:=Qd (RB.out.kept hb);clear hb DB1;refine hKQ.out _ _ DB2.out (fun hHeld=>?_);clear hKQ KQ;refine wpAnyH_ready (rs:=[1,10]) (by kernel_rfl) (by simp) ?_;refine Xo rfl (fun KQ hKQ=>?_) (Xo rfl (fun KQ hKQ=>?_) AllReadyH.nil);rotate_right
     focus
      go_simp;refine hKQ.out _ _ (Xc (AwR.kept DB2.out.1 ((Xb _ wb2).alloc (Xa _) _)) (Xc (DB2.out.2.1.kept ((Xb _ wb2).alloc (Xa _) _)) (Xd DB2.out.2.2 (Xp ((Xb _ wb2).alloc (Xa _) _))))) (fun hHeld0=>?_);clear hKQ KQ hHeld0;refine Ut fun wb3 hwb3=>?_
      have hba:Below wb2.heap.size wb2 wb3:=by rw[hwb3];exact(Xb _ _).alloc (Xa _) _
      have GZ0:∃Z,Box wb3 wb2.heap.size 63 Z∧Z.size=57∧W4.heap.size≤wb2.heap.size∧W2.heap.size≤wb2.heap.size:=by rw[hwb3];exact⟨_,Box.new _ _ _,rfl,DB2.out.2.2,DB2.out.1.2.2.2.1⟩
      obtain⟨Z9,GZ0⟩:=GZ0;have hHeld:=Xc (AwR.kept DB2.out.1 hba) (Xc (DB2.out.2.1.kept hba) (Xd DB2.out.2.2 (Xp hba)));have DB3:=Qd (Xc (AwR.kept DB2.out.1 hba) (Xc (DB2.out.2.1.kept hba) (Xd DB2.out.2.2 (Xp hba))));replace RB:=Qd (RB.out.kept hba);have GL:Hid (wb2.heap.size<wb3.heap.size):=Qd (GZ0.1.lt);have HNE:Hid (gr≠wb2.heap.size):=Qd (fun e=>by have h1:=HRL.out;omega);have GZ:=Qd GZ0;clear hwb3 hba GZ0 DB2;generalize wb2.heap.size=g9 at GZ GL HNE ⊢;refine Qc 1 fun KQ hKQ=>?_
      go_simp;refine(KPL.out _).mono ?_;rintro e wb4 ⟨rfl,hb⟩;have DB4:=Qd (Xc (AwR.kept DB3.out.1 hb) (Xc (DB3.out.2.1.kept hb) (Xd DB3.out.2.2 (Xp hb))));replace GL:=Qd (Xe GL.out (Xp hb));replace GZ:=Qd (Xc (GZ.out.1.kept hb) GZ.out.2);replace RB:=Qd (RB.out.kept hb);clear hb DB3;refine hKQ.out _ _ DB4.out (fun hHeld=>?_);clear hKQ KQ;refine Qc 9 fun KQ hKQ=>?_
      go_simp;refine(KBR.out (fun j=>j=g9) _ _ (fun j hj=>by rw[hj];exact GL.out) (Uef RB.out (fun h=>HNE.out h) ((DB4.out.1.2.1.2.2.2 0 (by simp)).mono (fun j hj=>by rw[hj];exact GZ.out.2.2.2)))).mono ?_;rintro e wb5 ⟨rs,vs,rfl,hx,hb⟩;dsimp only[id,bv];have DB5:=Qd (Xc (AwR.kept DB4.out.1 hb) (Xc (DB4.out.2.1.kept hb) (Xd DB4.out.2.2 (Xp hb))));replace GZ:=Qd (Xc (GZ.out.1.kept hb) GZ.out.2);clear RB;have HV:=Qd hx;clear hb hx DB4 GL;refine hKQ.out _ _ DB5.out (fun hHeld=>?_);clear hKQ KQ
     rotate_right
     focus
      go_simp;refine(KPL.out _).mono ?_;rintro e wb3 ⟨rfl,hb⟩;have DB3:=Qd (Xc (AwR.kept DB2.out.1 hb) (Xc (DB2.out.2.1.kept hb) (Xd DB2.out.2.2 (Xp hb))));replace HRL:=Qd (Xe HRL.out (Xp hb));replace RB:=Qd (RB.out.kept hb);clear hb DB2;refine hKQ.out _ _ DB3.out (fun hHeld=>?_);clear hKQ KQ;refine wpAnyH_ready (rs:=[9,10]) (by kernel_rfl) (by simp) ?_;refine Xo rfl (fun KQ hKQ=>?_) (Xo rfl (fun KQ hKQ=>?_) AllReadyH.nil);rotate_right
      focus
       go_simp;refine hKQ.out _ _ (Xc (AwR.kept DB3.out.1 ((Xb _ wb3).alloc (Xa _) _)) (Xc (DB3.out.2.1.kept ((Xb _ wb3).alloc (Xa _) _)) (Xd DB3.out.2.2 (Xp ((Xb _ wb3).alloc (Xa _) _))))) (fun hHeld0=>?_);clear hKQ KQ hHeld0;refine Ut fun wb4 hwb4=>?_
       have hba:Below wb3.heap.size wb3 wb4:=by rw[hwb4];exact(Xb _ _).alloc (Xa _) _
       have GZ0:∃Z,Box wb4 wb3.heap.size 63 Z∧Z.size=57∧W4.heap.size≤wb3.heap.size∧W2.heap.size≤wb3.heap.size:=by rw[hwb4];exact⟨_,Box.new _ _ _,rfl,DB3.out.2.2,DB3.out.1.2.2.2.1⟩
       obtain⟨Z9,GZ0⟩:=GZ0;have hHeld:=Xc (AwR.kept DB3.out.1 hba) (Xc (DB3.out.2.1.kept hba) (Xd DB3.out.2.2 (Xp hba)));have DB4:=Qd (Xc (AwR.kept DB3.out.1 hba) (Xc (DB3.out.2.1.kept hba) (Xd DB3.out.2.2 (Xp hba))));replace RB:=Qd (RB.out.kept hba);have GL:Hid (wb3.heap.size<wb4.heap.size):=Qd (GZ0.1.lt);have HNE:Hid (gr≠wb3.heap.size):=Qd (fun e=>by have h1:=HRL.out;omega);have GZ:=Qd GZ0;clear hwb4 hba GZ0 DB3;generalize wb3.heap.size=g9 at GZ GL HNE ⊢;refine Qc 9 fun KQ hKQ=>?_
       go_simp;refine(KBR.out (fun j=>j=g9) _ _ (fun j hj=>by rw[hj];exact GL.out) (Uef RB.out (fun h=>HNE.out h) ((DB4.out.1.2.1.2.2.2 0 (by simp)).mono (fun j hj=>by rw[hj];exact GZ.out.2.2.2)))).mono ?_;rintro e wb5 ⟨rs,vs,rfl,hx,hb⟩;dsimp only[id,bv];have DB5:=Qd (Xc (AwR.kept DB4.out.1 hb) (Xc (DB4.out.2.1.kept hb) (Xd DB4.out.2.2 (Xp hb))));replace GZ:=Qd (Xc (GZ.out.1.kept hb) GZ.out.2);clear RB;have HV:=Qd hx;clear hb hx DB4 GL;refine hKQ.out _ _ DB5.out (fun hHeld=>?_);clear hKQ KQ
      rotate_right
      focus
       go_simp;refine(KBR.out (fun _=>False) _ _ (fun _ h=>h.elim) (Uef RB.out (fun h=>h) ((DB3.out.1.2.1.2.2.2 0 (by simp)).mono (fun _ h=>h.elim)))).mono ?_;rintro e wb4 ⟨rs,vs,rfl,hx,hb⟩;dsimp only[id,bv];have DB4:=Qd (Xc (AwR.kept DB3.out.1 hb) (Xc (DB3.out.2.1.kept hb) (Xd DB3.out.2.2 (Xp hb))));clear RB;have HV:=Qd hx;clear hb hx DB3;refine hKQ.out _ _ DB4.out (fun hHeld=>?_);clear hKQ KQ;refine Qc 10 fun KQ hKQ=>?_
       go_simp;refine hKQ.out _ _ (Xc (AwR.kept DB4.out.1 ((Xb _ wb4).alloc (Xa _) _)) (Xc (DB4.out.2.1.kept ((Xb _ wb4).alloc (Xa _) _)) (Xd DB4.out.2.2 (Xp ((Xb _ wb4).alloc (Xa _) _))))) (fun hHeld0=>?_);clear hKQ KQ hHeld0;refine Ut fun wb5 hwb5=>?_
       have hba:Below wb4.heap.size wb4 wb5:=by rw[hwb5];exact(Xb _ _).alloc (Xa _) _
       have GZ0:∃Z,Box wb5 wb4.heap.size 63 Z∧Z.size=57∧W4.heap.size≤wb4.heap.size∧W2.heap.size≤wb4.heap.size:=by rw[hwb5];exact⟨_,Box.new _ _ _,rfl,DB4.out.2.2,DB4.out.1.2.2.2.1⟩
       obtain⟨Z9,GZ0⟩:=GZ0;have hHeld:=Xc (AwR.kept DB4.out.1 hba) (Xc (DB4.out.2.1.kept hba) (Xd DB4.out.2.2 (Xp hba)));have DB5:=Qd (Xc (AwR.kept DB4.out.1 hba) (Xc (DB4.out.2.1.kept hba) (Xd DB4.out.2.2 (Xp hba))));replace HV:=Qd ((HV.out.low.below hba).mono (Y:=fun j=>j=wb4.heap.size) (fun j hj=>by rw[hj];exact Or.inr (Xa _)));have GZ:=Qd GZ0;clear hwb5 hba GZ0 DB4;generalize wb4.heap.size=g9 at GZ HV ⊢
   rotate_right
   focus
    go_simp;refine(KNEW.out _).mono ?_;rintro e wb1 ⟨rfl,hb⟩;have DB1:=Qd (Xc (AwR.kept DB0.out.1 hb) (Xc (DB0.out.2.1.kept hb) (Xd DB0.out.2.2 (Xp hb))));clear hb DB0;refine hKQ.out _ _ DB1.out (fun hHeld=>?_);clear hKQ KQ;refine wpAnyH_ready (rs:=[1,8,10]) (by kernel_rfl) (by simp) ?_;refine Xo rfl (fun KQ hKQ=>?_) (Xo rfl (fun KQ hKQ=>?_) (Xo rfl (fun KQ hKQ=>?_) AllReadyH.nil));rotate_right
    focus
     go_simp;refine hKQ.out _ _ (Xc (AwR.kept DB1.out.1 ((Xb _ wb1).alloc (Xa _) _)) (Xc (DB1.out.2.1.kept ((Xb _ wb1).alloc (Xa _) _)) (Xd DB1.out.2.2 (Xp ((Xb _ wb1).alloc (Xa _) _))))) (fun hHeld0=>?_);clear hKQ KQ hHeld0;refine Ut fun wb2 hwb2=>?_
     have hba:Below wb1.heap.size wb1 wb2:=by rw[hwb2];exact(Xb _ _).alloc (Xa _) _
     have GZ0:∃Z,Box wb2 wb1.heap.size 63 Z∧Z.size=57∧W4.heap.size≤wb1.heap.size∧W2.heap.size≤wb1.heap.size:=by rw[hwb2];exact⟨_,Box.new _ _ _,rfl,DB1.out.2.2,DB1.out.1.2.2.2.1⟩
     obtain⟨Z9,GZ0⟩:=GZ0;have hHeld:=Xc (AwR.kept DB1.out.1 hba) (Xc (DB1.out.2.1.kept hba) (Xd DB1.out.2.2 (Xp hba)));have DB2:=Qd (Xc (AwR.kept DB1.out.1 hba) (Xc (DB1.out.2.1.kept hba) (Xd DB1.out.2.2 (Xp hba))));have GL:Hid (wb1.heap.size<wb2.heap.size):=Qd (GZ0.1.lt);have GZ:=Qd GZ0;clear hwb2 hba GZ0 DB1;generalize wb1.heap.size=g9 at GZ GL ⊢;refine wpAnyH_ready (rs:=[1,8]) (by kernel_rfl) (by simp) ?_;refine Xo rfl (fun KQ hKQ=>?_) (Xo rfl (fun KQ hKQ=>?_) AllReadyH.nil);rotate_right
     focus
      have hbd:=Ubq a9 n9 c9;go_simp;refine hKQ.out _ _ (Xc (AwR.kept DB2.out.1 ((Xb _ wb2).alloc (Xa _) _)) (Xc (DB2.out.2.1.kept ((Xb _ wb2).alloc (Xa _) _)) (Xd DB2.out.2.2 (Xp ((Xb _ wb2).alloc (Xa _) _))))) (fun hHeld0=>?_);clear hKQ KQ hHeld0 hbd;refine Ut fun wb3 hwb3=>?_
      have hba:Below wb2.heap.size wb2 wb3:=by rw[hwb3];exact(Xb _ _).alloc (Xa _) _
      have hrb:Box wb3 wb2.heap.size 69 (Uci (.slice a9 n9 c9) 3):=by rw[hwb3];exact Box.new _ _ _
      have hHeld:=Xc (AwR.kept DB2.out.1 hba) (Xc (DB2.out.2.1.kept hba) (Xd DB2.out.2.2 (Xp hba)));have DB3:=Qd (Xc (AwR.kept DB2.out.1 hba) (Xc (DB2.out.2.1.kept hba) (Xd DB2.out.2.2 (Xp hba))));replace GZ:=Qd (Xc (GZ.out.1.kept hba) GZ.out.2);have HNE:Hid (wb2.heap.size≠g9):=Qd (fun e=>by have h1:=GL.out;omega);replace GL:=Qd (Xe GL.out (Xp hba));have RB:=Qd hrb;clear hwb3 hba hrb DB2;generalize wb2.heap.size=gr at RB HNE ⊢;refine Qc 1 fun KQ hKQ=>?_
      go_simp;refine(KPL.out _).mono ?_;rintro e wb4 ⟨rfl,hb⟩;have DB4:=Qd (Xc (AwR.kept DB3.out.1 hb) (Xc (DB3.out.2.1.kept hb) (Xd DB3.out.2.2 (Xp hb))));replace GL:=Qd (Xe GL.out (Xp hb));replace GZ:=Qd (Xc (GZ.out.1.kept hb) GZ.out.2);replace RB:=Qd (RB.out.kept hb);clear hb DB3;refine hKQ.out _ _ DB4.out (fun hHeld=>?_);clear hKQ KQ
     rotate_right
     focus
      go_simp;refine(KPL.out _).mono ?_;rintro e wb3 ⟨rfl,hb⟩;have DB3:=Qd (Xc (AwR.kept DB2.out.1 hb) (Xc (DB2.out.2.1.kept hb) (Xd DB2.out.2.2 (Xp hb))));replace GL:=Qd (Xe GL.out (Xp hb));replace GZ:=Qd (Xc (GZ.out.1.kept hb) GZ.out.2);clear hb DB2;refine hKQ.out _ _ DB3.out (fun hHeld=>?_);clear hKQ KQ;refine Qc 8 fun KQ hKQ=>?_
      have hbd:=Ubq a9 n9 c9;go_simp;refine hKQ.out _ _ (Xc (AwR.kept DB3.out.1 ((Xb _ wb3).alloc (Xa _) _)) (Xc (DB3.out.2.1.kept ((Xb _ wb3).alloc (Xa _) _)) (Xd DB3.out.2.2 (Xp ((Xb _ wb3).alloc (Xa _) _))))) (fun hHeld0=>?_);clear hKQ KQ hHeld0 hbd;refine Ut fun wb4 hwb4=>?_
      have hba:Below wb3.heap.size wb3 wb4:=by rw[hwb4];exact(Xb _ _).alloc (Xa _) _
      have hrb:Box wb4 wb3.heap.size 69 (Uci (.slice a9 n9 c9) 3):=by rw[hwb4];exact Box.new _ _ _
      have hHeld:=Xc (AwR.kept DB3.out.1 hba) (Xc (DB3.out.2.1.kept hba) (Xd DB3.out.2.2 (Xp hba)));have DB4:=Qd (Xc (AwR.kept DB3.out.1 hba) (Xc (DB3.out.2.1.kept hba) (Xd DB3.out.2.2 (Xp hba))));replace GZ:=Qd (Xc (GZ.out.1.kept hba) GZ.out.2);have HNE:Hid (wb3.heap.size≠g9):=Qd (fun e=>by have h1:=GL.out;omega);replace GL:=Qd (Xe GL.out (Xp hba));have RB:=Qd hrb;clear hwb4 hba hrb DB3;generalize wb3.heap.size=gr at RB HNE ⊢
     all_goals
      refine Qc 9 fun KQ hKQ=>?_
      go_simp;refine(KBR.out (fun j=>j=g9) _ _ (fun j hj=>by rw[hj];exact GL.out) (Uef RB.out (fun h=>HNE.out h) ((DB4.out.1.2.1.2.2.2 0 (by simp)).mono (fun j hj=>by rw[hj];exact GZ.out.2.2.2)))).mono ?_;rintro e wb5 ⟨rs,vs,rfl,hx,hb⟩;dsimp only[id,bv];have DB5:=Qd (Xc (AwR.kept DB4.out.1 hb) (Xc (DB4.out.2.1.kept hb) (Xd DB4.out.2.2 (Xp hb))));replace GZ:=Qd (Xc (GZ.out.1.kept hb) GZ.out.2);clear RB;have HV:=Qd hx;clear hb hx DB4 GL;refine hKQ.out _ _ DB5.out (fun hHeld=>?_);clear hKQ KQ
    rotate_right
    focus
     have hbd:=Ubq a9 n9 c9;go_simp;refine hKQ.out _ _ (Xc (AwR.kept DB1.out.1 ((Xb _ wb1).alloc (Xa _) _)) (Xc (DB1.out.2.1.kept ((Xb _ wb1).alloc (Xa _) _)) (Xd DB1.out.2.2 (Xp ((Xb _ wb1).alloc (Xa _) _))))) (fun hHeld0=>?_);clear hKQ KQ hHeld0 hbd;refine Ut fun wb2 hwb2=>?_
     have hba:Below wb1.heap.size wb1 wb2:=by rw[hwb2];exact(Xb _ _).alloc (Xa _) _
     have hrb:Box wb2 wb1.heap.size 69 (Uci (.slice a9 n9 c9) 3):=by rw[hwb2];exact Box.new _ _ _
     have hHeld:=Xc (AwR.kept DB1.out.1 hba) (Xc (DB1.out.2.1.kept hba) (Xd DB1.out.2.2 (Xp hba)));have DB2:=Qd (Xc (AwR.kept DB1.out.1 hba) (Xc (DB1.out.2.1.kept hba) (Xd DB1.out.2.2 (Xp hba))));have HRL:Hid (wb1.heap.size<wb2.heap.size):=Qd hrb.lt;have RB:=Qd hrb;clear hwb2 hba hrb DB1;generalize wb1.heap.size=gr at RB HRL ⊢;refine wpAnyH_ready (rs:=[1,10]) (by kernel_rfl) (by simp) ?_;refine Xo rfl (fun KQ hKQ=>?_) (Xo rfl (fun KQ hKQ=>?_) AllReadyH.nil);rotate_right
     focus
      go_simp;refine hKQ.out _ _ (Xc (AwR.kept DB2.out.1 ((Xb _ wb2).alloc (Xa _) _)) (Xc (DB2.out.2.1.kept ((Xb _ wb2).alloc (Xa _) _)) (Xd DB2.out.2.2 (Xp ((Xb _ wb2).alloc (Xa _) _))))) (fun hHeld0=>?_);clear hKQ KQ hHeld0;refine Ut fun wb3 hwb3=>?_
      have hba:Below wb2.heap.size wb2 wb3:=by rw[hwb3];exact(Xb _ _).alloc (Xa _) _
      have GZ0:∃Z,Box wb3 wb2.heap.size 63 Z∧Z.size=57∧W4.heap.size≤wb2.heap.size∧W2.heap.size≤wb2.heap.size:=by rw[hwb3];exact⟨_,Box.new _ _ _,rfl,DB2.out.2.2,DB2.out.1.2.2.2.1⟩
      obtain⟨Z9,GZ0⟩:=GZ0;have hHeld:=Xc (AwR.kept DB2.out.1 hba) (Xc (DB2.out.2.1.kept hba) (Xd DB2.out.2.2 (Xp hba)));have DB3:=Qd (Xc (AwR.kept DB2.out.1 hba) (Xc (DB2.out.2.1.kept hba) (Xd DB2.out.2.2 (Xp hba))));replace RB:=Qd (RB.out.kept hba);have GL:Hid (wb2.heap.size<wb3.heap.size):=Qd (GZ0.1.lt);have HNE:Hid (gr≠wb2.heap.size):=Qd (fun e=>by have h1:=HRL.out;omega);have GZ:=Qd GZ0;clear hwb3 hba GZ0 DB2;generalize wb2.heap.size=g9 at GZ GL HNE ⊢;refine Qc 1 fun KQ hKQ=>?_
      go_simp;refine(KPL.out _).mono ?_;rintro e wb4 ⟨rfl,hb⟩;have DB4:=Qd (Xc (AwR.kept DB3.out.1 hb) (Xc (DB3.out.2.1.kept hb) (Xd DB3.out.2.2 (Xp hb))));replace GL:=Qd (Xe GL.out (Xp hb));replace GZ:=Qd (Xc (GZ.out.1.kept hb) GZ.out.2);replace RB:=Qd (RB.out.kept hb);clear hb DB3;refine hKQ.out _ _ DB4.out (fun hHeld=>?_);clear hKQ KQ;refine Qc 9 fun KQ hKQ=>?_
      go_simp;refine(KBR.out (fun j=>j=g9) _ _ (fun j hj=>by rw[hj];exact GL.out) (Uef RB.out (fun h=>HNE.out h) ((DB4.out.1.2.1.2.2.2 0 (by simp)).mono (fun j hj=>by rw[hj];exact GZ.out.2.2.2)))).mono ?_;rintro e wb5 ⟨rs,vs,rfl,hx,hb⟩;dsimp only[id,bv];have DB5:=Qd (Xc (AwR.kept DB4.out.1 hb) (Xc (DB4.out.2.1.kept hb) (Xd DB4.out.2.2 (Xp hb))));replace GZ:=Qd (Xc (GZ.out.1.kept hb) GZ.out.2);clear RB;have HV:=Qd hx;clear hb hx DB4 GL;refine hKQ.out _ _ DB5.out (fun hHeld=>?_);clear hKQ KQ
     rotate_right
     focus
      go_simp;refine(KPL.out _).mono ?_;rintro e wb3 ⟨rfl,hb⟩;have DB3:=Qd (Xc (AwR.kept DB2.out.1 hb) (Xc (DB2.out.2.1.kept hb) (Xd DB2.out.2.2 (Xp hb))));replace HRL:=Qd (Xe HRL.out (Xp hb));replace RB:=Qd (RB.out.kept hb);clear hb DB2;refine hKQ.out _ _ DB3.out (fun hHeld=>?_);clear hKQ KQ;refine wpAnyH_ready (rs:=[9,10]) (by kernel_rfl) (by simp) ?_;refine Xo rfl (fun KQ hKQ=>?_) (Xo rfl (fun KQ hKQ=>?_) AllReadyH.nil);rotate_right
      focus
       go_simp;refine hKQ.out _ _ (Xc (AwR.kept DB3.out.1 ((Xb _ wb3).alloc (Xa _) _)) (Xc (DB3.out.2.1.kept ((Xb _ wb3).alloc (Xa _) _)) (Xd DB3.out.2.2 (Xp ((Xb _ wb3).alloc (Xa _) _))))) (fun hHeld0=>?_);clear hKQ KQ hHeld0;refine Ut fun wb4 hwb4=>?_
       have hba:Below wb3.heap.size wb3 wb4:=by rw[hwb4];exact(Xb _ _).alloc (Xa _) _
       have GZ0:∃Z,Box wb4 wb3.heap.size 63 Z∧Z.size=57∧W4.heap.size≤wb3.heap.size∧W2.heap.size≤wb3.heap.size:=by rw[hwb4];exact⟨_,Box.new _ _ _,rfl,DB3.out.2.2,DB3.out.1.2.2.2.1⟩
       obtain⟨Z9,GZ0⟩:=GZ0;have hHeld:=Xc (AwR.kept DB3.out.1 hba) (Xc (DB3.out.2.1.kept hba) (Xd DB3.out.2.2 (Xp hba)));have DB4:=Qd (Xc (AwR.kept DB3.out.1 hba) (Xc (DB3.out.2.1.kept hba) (Xd DB3.out.2.2 (Xp hba))));replace RB:=Qd (RB.out.kept hba);have GL:Hid (wb3.heap.size<wb4.heap.size):=Qd (GZ0.1.lt);have HNE:Hid (gr≠wb3.heap.size):=Qd (fun e=>by have h1:=HRL.out;omega);have GZ:=Qd GZ0;clear hwb4 hba GZ0 DB3;generalize wb3.heap.size=g9 at GZ GL HNE ⊢;refine Qc 9 fun KQ hKQ=>?_
       go_simp;refine(KBR.out (fun j=>j=g9) _ _ (fun j hj=>by rw[hj];exact GL.out) (Uef RB.out (fun h=>HNE.out h) ((DB4.out.1.2.1.2.2.2 0 (by simp)).mono (fun j hj=>by rw[hj];exact GZ.out.2.2.2)))).mono ?_;rintro e wb5 ⟨rs,vs,rfl,hx,hb⟩;dsimp only[id,bv];have DB5:=Qd (Xc (AwR.kept DB4.out.1 hb) (Xc (DB4.out.2.1.kept hb) (Xd DB4.out.2.2 (Xp hb))));replace GZ:=Qd (Xc (GZ.out.1.kept hb) GZ.out.2);clear RB;have HV:=Qd hx;clear hb hx DB4 GL;refine hKQ.out _ _ DB5.out (fun hHeld=>?_);clear hKQ KQ
      rotate_right
      focus
       go_simp;refine(KBR.out (fun _=>False) _ _ (fun _ h=>h.elim) (Uef RB.out (fun h=>h) ((DB3.out.1.2.1.2.2.2 0 (by simp)).mono (fun _ h=>h.elim)))).mono ?_;rintro e wb4 ⟨rs,vs,rfl,hx,hb⟩;dsimp only[id,bv];have DB4:=Qd (Xc (AwR.kept DB3.out.1 hb) (Xc (DB3.out.2.1.kept hb) (Xd DB3.out.2.2 (Xp hb))));clear RB;have HV:=Qd hx;clear hb hx DB3;refine hKQ.out _ _ DB4.out (fun hHeld=>?_);clear hKQ KQ;refine Qc 10 fun KQ hKQ=>?_
       go_simp;refine hKQ.out _ _ (Xc (AwR.kept DB4.out.1 ((Xb _ wb4).alloc (Xa _) _)) (Xc (DB4.out.2.1.kept ((Xb _ wb4).alloc (Xa _) _)) (Xd DB4.out.2.2 (Xp ((Xb _ wb4).alloc (Xa _) _))))) (fun hHeld0=>?_);clear hKQ KQ hHeld0;refine Ut fun wb5 hwb5=>?_
       have hba:Below wb4.heap.size wb4 wb5:=by rw[hwb5];exact(Xb _ _).alloc (Xa _) _
       have GZ0:∃Z,Box wb5 wb4.heap.size 63 Z∧Z.size=57∧W4.heap.size≤wb4.heap.size∧W2.heap.size≤wb4.heap.size:=by rw[hwb5];exact⟨_,Box.new _ _ _,rfl,DB4.out.2.2,DB4.out.1.2.2.2.1⟩
       obtain⟨Z9,GZ0⟩:=GZ0;have hHeld:=Xc (AwR.kept DB4.out.1 hba) (Xc (DB4.out.2.1.kept hba) (Xd DB4.out.2.2 (Xp hba)));have DB5:=Qd (Xc (AwR.kept DB4.out.1 hba) (Xc (DB4.out.2.1.kept hba) (Xd DB4.out.2.2 (Xp hba))));replace HV:=Qd ((HV.out.low.below hba).mono (Y:=fun j=>j=wb4.heap.size) (fun j hj=>by rw[hj];exact Or.inr (Xa _)));have GZ:=Qd GZ0;clear hwb5 hba GZ0 DB4;generalize wb4.heap.size=g9 at GZ HV ⊢
    rotate_right
    focus
     go_simp;refine(KPL.out _).mono ?_;rintro e wb2 ⟨rfl,hb⟩;have DB2:=Qd (Xc (AwR.kept DB1.out.1 hb) (Xc (DB1.out.2.1.kept hb) (Xd DB1.out.2.2 (Xp hb))));clear hb DB1;refine hKQ.out _ _ DB2.out (fun hHeld=>?_);clear hKQ KQ;refine wpAnyH_ready (rs:=[8,10]) (by kernel_rfl) (by simp) ?_;refine Xo rfl (fun KQ hKQ=>?_) (Xo rfl (fun KQ hKQ=>?_) AllReadyH.nil);rotate_right;rotate_right
     focus
      have hbd:=Ubq a9 n9 c9
     all_goals
      go_simp;refine hKQ.out _ _ (Xc (AwR.kept DB2.out.1 ((Xb _ wb2).alloc (Xa _) _)) (Xc (DB2.out.2.1.kept ((Xb _ wb2).alloc (Xa _) _)) (Xd DB2.out.2.2 (Xp ((Xb _ wb2).alloc (Xa _) _))))) (fun hHeld0=>?_)
     rotate_right
     focus
      clear hKQ KQ hHeld0
     rotate_right
     focus
      clear hKQ KQ hHeld0 hbd
     all_goals
      refine Ut fun wb3 hwb3=>?_
      have hba:Below wb2.heap.size wb2 wb3:=by rw[hwb3];exact(Xb _ _).alloc (Xa _) _
     rotate_right
     focus
      have GZ0:∃Z,Box wb3 wb2.heap.size 63 Z∧Z.size=57∧W4.heap.size≤wb2.heap.size∧W2.heap.size≤wb2.heap.size:=by rw[hwb3];exact⟨_,Box.new _ _ _,rfl,DB2.out.2.2,DB2.out.1.2.2.2.1⟩
      obtain⟨Z9,GZ0⟩:=GZ0
     rotate_right
     focus
      have hrb:Box wb3 wb2.heap.size 69 (Uci (.slice a9 n9 c9) 3):=by rw[hwb3];exact Box.new _ _ _
     all_goals
      have hHeld:=Xc (AwR.kept DB2.out.1 hba) (Xc (DB2.out.2.1.kept hba) (Xd DB2.out.2.2 (Xp hba)));have DB3:=Qd (Xc (AwR.kept DB2.out.1 hba) (Xc (DB2.out.2.1.kept hba) (Xd DB2.out.2.2 (Xp hba))))
     rotate_right
     focus
      have GL:Hid (wb2.heap.size<wb3.heap.size):=Qd (GZ0.1.lt);have GZ:=Qd GZ0;clear hwb3 hba GZ0 DB2;generalize wb2.heap.size=g9 at GZ GL ⊢;refine Qc 8 fun KQ hKQ=>?_
      have hbd:=Ubq a9 n9 c9;go_simp;refine hKQ.out _ _ (Xc (AwR.kept DB3.out.1 ((Xb _ wb3).alloc (Xa _) _)) (Xc (DB3.out.2.1.kept ((Xb _ wb3).alloc (Xa _) _)) (Xd DB3.out.2.2 (Xp ((Xb _ wb3).alloc (Xa _) _))))) (fun hHeld0=>?_);clear hKQ KQ hHeld0 hbd;refine Ut fun wb4 hwb4=>?_
      have hba:Below wb3.heap.size wb3 wb4:=by rw[hwb4];exact(Xb _ _).alloc (Xa _) _
      have hrb:Box wb4 wb3.heap.size 69 (Uci (.slice a9 n9 c9) 3):=by rw[hwb4];exact Box.new _ _ _
      have hHeld:=Xc (AwR.kept DB3.out.1 hba) (Xc (DB3.out.2.1.kept hba) (Xd DB3.out.2.2 (Xp hba)));have DB4:=Qd (Xc (AwR.kept DB3.out.1 hba) (Xc (DB3.out.2.1.kept hba) (Xd DB3.out.2.2 (Xp hba))));replace GZ:=Qd (Xc (GZ.out.1.kept hba) GZ.out.2);have HNE:Hid (wb3.heap.size≠g9):=Qd (fun e=>by have h1:=GL.out;omega);replace GL:=Qd (Xe GL.out (Xp hba));have RB:=Qd hrb;clear hwb4 hba hrb DB3;generalize wb3.heap.size=gr at RB HNE ⊢;refine Qc 9 fun KQ hKQ=>?_
      go_simp;refine(KBR.out (fun j=>j=g9) _ _ (fun j hj=>by rw[hj];exact GL.out) (Uef RB.out (fun h=>HNE.out h) ((DB4.out.1.2.1.2.2.2 0 (by simp)).mono (fun j hj=>by rw[hj];exact GZ.out.2.2.2)))).mono ?_;rintro e wb5 ⟨rs,vs,rfl,hx,hb⟩;dsimp only[id,bv];have DB5:=Qd (Xc (AwR.kept DB4.out.1 hb) (Xc (DB4.out.2.1.kept hb) (Xd DB4.out.2.2 (Xp hb))));replace GZ:=Qd (Xc (GZ.out.1.kept hb) GZ.out.2);clear RB;have HV:=Qd hx;clear hb hx DB4 GL;refine hKQ.out _ _ DB5.out (fun hHeld=>?_);clear hKQ KQ
     rotate_right
     focus
      have HRL:Hid (wb2.heap.size<wb3.heap.size):=Qd hrb.lt;have RB:=Qd hrb;clear hwb3 hba hrb DB2;generalize wb2.heap.size=gr at RB HRL ⊢;refine wpAnyH_ready (rs:=[9,10]) (by kernel_rfl) (by simp) ?_;refine Xo rfl (fun KQ hKQ=>?_) (Xo rfl (fun KQ hKQ=>?_) AllReadyH.nil);rotate_right
      focus
       go_simp;refine hKQ.out _ _ (Xc (AwR.kept DB3.out.1 ((Xb _ wb3).alloc (Xa _) _)) (Xc (DB3.out.2.1.kept ((Xb _ wb3).alloc (Xa _) _)) (Xd DB3.out.2.2 (Xp ((Xb _ wb3).alloc (Xa _) _))))) (fun hHeld0=>?_);clear hKQ KQ hHeld0;refine Ut fun wb4 hwb4=>?_
       have hba:Below wb3.heap.size wb3 wb4:=by rw[hwb4];exact(Xb _ _).alloc (Xa _) _
       have GZ0:∃Z,Box wb4 wb3.heap.size 63 Z∧Z.size=57∧W4.heap.size≤wb3.heap.size∧W2.heap.size≤wb3.heap.size:=by rw[hwb4];exact⟨_,Box.new _ _ _,rfl,DB3.out.2.2,DB3.out.1.2.2.2.1⟩
       obtain⟨Z9,GZ0⟩:=GZ0;have hHeld:=Xc (AwR.kept DB3.out.1 hba) (Xc (DB3.out.2.1.kept hba) (Xd DB3.out.2.2 (Xp hba)));have DB4:=Qd (Xc (AwR.kept DB3.out.1 hba) (Xc (DB3.out.2.1.kept hba) (Xd DB3.out.2.2 (Xp hba))));replace RB:=Qd (RB.out.kept hba);have GL:Hid (wb3.heap.size<wb4.heap.size):=Qd (GZ0.1.lt);have HNE:Hid (gr≠wb3.heap.size):=Qd (fun e=>by have h1:=HRL.out;omega);have GZ:=Qd GZ0;clear hwb4 hba GZ0 DB3;generalize wb3.heap.size=g9 at GZ GL HNE ⊢;refine Qc 9 fun KQ hKQ=>?_
       go_simp;refine(KBR.out (fun j=>j=g9) _ _ (fun j hj=>by rw[hj];exact GL.out) (Uef RB.out (fun h=>HNE.out h) ((DB4.out.1.2.1.2.2.2 0 (by simp)).mono (fun j hj=>by rw[hj];exact GZ.out.2.2.2)))).mono ?_;rintro e wb5 ⟨rs,vs,rfl,hx,hb⟩;dsimp only[id,bv];have DB5:=Qd (Xc (AwR.kept DB4.out.1 hb) (Xc (DB4.out.2.1.kept hb) (Xd DB4.out.2.2 (Xp hb))));replace GZ:=Qd (Xc (GZ.out.1.kept hb) GZ.out.2);clear RB;have HV:=Qd hx;clear hb hx DB4 GL;refine hKQ.out _ _ DB5.out (fun hHeld=>?_);clear hKQ KQ
      rotate_right
      focus
       go_simp;refine(KBR.out (fun _=>False) _ _ (fun _ h=>h.elim) (Uef RB.out (fun h=>h) ((DB3.out.1.2.1.2.2.2 0 (by simp)).mono (fun _ h=>h.elim)))).mono ?_;rintro e wb4 ⟨rs,vs,rfl,hx,hb⟩;dsimp only[id,bv];have DB4:=Qd (Xc (AwR.kept DB3.out.1 hb) (Xc (DB3.out.2.1.kept hb) (Xd DB3.out.2.2 (Xp hb))));clear RB;have HV:=Qd hx;clear hb hx DB3;refine hKQ.out _ _ DB4.out (fun hHeld=>?_);clear hKQ KQ;refine Qc 10 fun KQ hKQ=>?_
       go_simp;refine hKQ.out _ _ (Xc (AwR.kept DB4.out.1 ((Xb _ wb4).alloc (Xa _) _)) (Xc (DB4.out.2.1.kept ((Xb _ wb4).alloc (Xa _) _)) (Xd DB4.out.2.2 (Xp ((Xb _ wb4).alloc (Xa _) _))))) (fun hHeld0=>?_);clear hKQ KQ hHeld0;refine Ut fun wb5 hwb5=>?_
       have hba:Below wb4.heap.size wb4 wb5:=by rw[hwb5];exact(Xb _ _).alloc (Xa _) _
       have GZ0:∃Z,Box wb5 wb4.heap.size 63 Z∧Z.size=57∧W4.heap.size≤wb4.heap.size∧W2.heap.size≤wb4.heap.size:=by rw[hwb5];exact⟨_,Box.new _ _ _,rfl,DB4.out.2.2,DB4.out.1.2.2.2.1⟩
       obtain⟨Z9,GZ0⟩:=GZ0;have hHeld:=Xc (AwR.kept DB4.out.1 hba) (Xc (DB4.out.2.1.kept hba) (Xd DB4.out.2.2 (Xp hba)));have DB5:=Qd (Xc (AwR.kept DB4.out.1 hba) (Xc (DB4.out.2.1.kept hba) (Xd DB4.out.2.2 (Xp hba))));replace HV:=Qd ((HV.out.low.below hba).mono (Y:=fun j=>j=wb4.heap.size) (fun j hj=>by rw[hj];exact Or.inr (Xa _)));have GZ:=Qd GZ0;clear hwb5 hba GZ0 DB4;generalize wb4.heap.size=g9 at GZ HV ⊢
   all_goals
    refine Qc 11 fun KQ hKQ=>?_
    rw[if_pos (by rfl)];have hbs:=Ub1 HV.out Ul4;refine wp_store_mid 63 _ _ rfl g9 0 (bcs U3x rs vs) rfl rfl (GZ.out.1.thereAll (by rw[GZ.out.2.1,hbs])) (Uav HV.out Ul4) (Ubp HV.out) ?_;refine Uh6 fun W8 hW8=>?_
    have FZ8:Hid (Box W8 g9 63 (bcs U3x rs vs)∧BrX (fun j=>j=g9) W8 rs vs U3x∧(AwR w W2.heap.size g1 (.slice (some ⟨g0,0,none⟩) 1 1) (.slice a9 n9 c9) W8∧Box W8 g4 52 xl.toArray∧W4.heap.size≤W8.heap.size)):=Qd (by
     have hc:Chg (fun j=>j=g9) wb5 W8:=by rw[hW8];exact Chg.setCells (X:=fun j=>j=g9) rfl _ _
     have hbx:Box W8 g9 63 (bcs U3x rs vs):=by rw[hW8];exact GZ.out.1.setCells_all (by rw[Array.length_toList,GZ.out.2.1,hbs])
     exact⟨hbx,HV.out.chg hc,AwR.far DB5.out.1 hc GZ.out.2.2.2,DB5.out.2.1.chg hc (by have h1:=GZ.out.2.2.1;have h2:=HN4.out.2.1;omega),Xd DB5.out.2.2 hc.size⟩)
    clear hW8 hbs DB5 HV GZ;go_simp;refine hKQ.out _ _ FZ8.out.2.2 (fun hHeld=>?_);clear hKQ KQ;refine Xl (by kernel_rfl) ?_ _;go_wp2_with fail;go_meet
    case rel=>exact⟨g9,rs,vs,rfl,Qd ⟨FZ8.out.1,FZ8.out.2.1,FZ8.out.2.2.2.1,FZ8.out.2.2.1.2.2.1⟩⟩
  case rest =>
   obtain⟨g6,rs,vs,rfl,FZ⟩:=hcut;have xp:wc.cell? ⟨g4,11,none⟩=some (.int .i64 4293918985):=by rw[FZ.out.2.2.1.cell];exact SX.out.2.2.1
   have XB:Hid (wc.rangeAt g6 27 xl∧wc.rangeAt g4 0 xl∧(prog.info? 52).map (·.size)=some xl.length):=Qd ⟨by rw[←HXL.out,←U8f];exact b_x FZ.out.1 FZ.out.2.1.len Ul4.dl FZ.out.2.1.q.len FZ.out.2.1.q.nl,FZ.out.2.2.1.rangeA,by have:=SX.out.1;simpa using this⟩;go_wp2_with (first|refine Ubf 52 _ rfl (by kernel_rfl) ?_);refine Zr.go g4 0 rfl XB.out.2.1 underlying52 rfl XB.out.2.2 ?_;go_wp2_with (first|refine Ubf 52 _ rfl (by kernel_rfl) ?_);refine Zr.go g6 27 rfl XB.out.1 underlying52 rfl XB.out.2.2 ?_;go_wp2_with (first|refine Ubf 52 _ rfl (by kernel_rfl) ?_);refine Zr.go g4 0 rfl XB.out.2.1 underlying52 rfl XB.out.2.2 ?_;go_wp2_with fail;refine(KSN.out _).mono ?_;rintro e w9 ⟨rfl,hb⟩;have HE:=Qd (Ua FZ.out.2.2.2 hb FZ.out.2.2.2.size);clear hb;go_wp2_with fail;go_ret;exact⟨rfl,HE.out⟩
end Go.Proofs.YtdaflmjfeoacaaaGreat
