/- Part of the proof of TopTry, TopSplit: BeR. Conditions: none. -/
import Derived.Test.YtdaflmjfeoacaaaGreatZbbr
set_option linter.all false
set_option maxHeartbeats 16000000
set_option maxRecDepth 4000
namespace Go.Proofs.YtdaflmjfeoacaaaGreat
open Tryz
open Go.RowKit Go.Shelf
def Uj1:FT:=⟨[],⟨0,Zy 32,true,0⟩⟩
def Ur (d:Bool):List Value:=[.slice none 0 0,.int .i64 0,.int .u64 0,.int .u64 0,.int .u64 0,.int .u64 0,.int .u64 0,.int .u64 0,.int .u64 0,.int .u64 0,.int .u64 0,.int .u64 0,.int .u64 0,.int .u64 0,.int .u64 0,.int .u64 0,.int .u64 0,.int .u64 0,.int .u64 0,.int .u64 0,.int .u64 0,.int .u64 0,.int .u64 0,.int .u64 0,.int .u64 0,.int .u64 0,.int .u64 0,.int .u64 0,.int .u64 0,.int .u64 0,.int .u64 0,.int .u64 0,.int .u64 0,.int .u64 0,.bool d,.int .i64 0]
theorem Utl (X:Nat→Prop)(w:World):TkX X w (Ur true) Uj1 :=
 ⟨rfl,.slice none 0 0,[],⟨Sl.nil _ 5,fun x hx=>by simp at hx⟩,Ud0.nil _ _ _,fun W hW=>⟨.slice none 0 0,rfl,hW,⟨Ugw 32,Un2 32,by show I64 0;unfold I64;omega,by show I64 0;unfold I64;omega⟩,rfl⟩⟩
def Unp (ls:List (List (List Int))):List (List (List Int)):=ls.map fun l=>(Uno l).take 40
def Y8 (ls:List (List (List Int)))(c:Uag)(lag:Int):Bch:=⟨Zy 87,c,Unp ls,max 0 (min lag 1099511627776),[Uj1,Uj1,Uj1,Uj1],[0,0,0,0],[0,0,0,0],[0,0,0,0],[0,0,0,0],Uj1,0,0,Ulr,Ub8,0,[Uj1,Uj1]⟩
theorem Ura (ls:List (List (List Int))){k:Nat}(hk:k<ls.length):(Unp ls).getD k []=(Uno (ls.getD k [])).take 40:=by
 unfold Unp;rw[List.getD_eq_getElem?_getD,List.getElem?_map,Xj hk,List.getD_eq_getElem?_getD,Xj hk]
 rfl
theorem Uc4 (ls:List (List (List Int)))(h4:ls.length=4)(c:Uag)(lag:Int):Ya 0 (Y8 ls c lag):=by
 have z4:Uwz 0 [0,0,0,0]:=⟨rfl,fun k hk=>by rcases (show k=0∨k=1∨k=2∨k=3 by omega) with rfl|rfl|rfl|rfl<;>decide,fun k hk=>by rcases (show k=0∨k=1∨k=2∨k=3 by omega) with rfl|rfl|rfl|rfl<;>decide⟩;refine⟨z4,z4,z4,z4,fun k hk=>?_,fun k hk=>?_,?_,Int.le_refl 0,(by show(0:Int)≤4;omega),(by show Ua0 0;decide),Uls,(by show Ual Ub8;decide),Int.le_refl 0,Int.le_refl 0⟩
 ·have:([0,0,0,0]:List Int).getD k 0=0:=by rcases (show k=0∨k=1∨k=2∨k=3 by omega) with rfl|rfl|rfl|rfl<;>rfl
  show([0,0,0,0]:List Int).getD k 0≤_;rw[this];omega
 ·show((Unp ls).getD k []).length≤40∧_;rw[show(Y8 ls c lag).lists=Unp ls from rfl,Ura ls (by omega)];refine⟨by rw[List.length_take];omega,fun ws hw=>?_⟩;have:=List.mem_of_mem_take hw;unfold Uno at this;simpa using (List.mem_filter.1 this).2
 ·show Ua0 (max 0 (min lag 1099511627776));unfold Ua0;omega
def b0N (c:Uag)(lag:Int):Bch:=⟨[],c,[],max 0 (min lag 1099511627776),[],[0,0,0,0],[0,0,0,0],[0,0,0,0],[0,0,0,0],Uj1,0,0,Ulr,Ub8,0,[]⟩
def R0N (v:Value):Rep:=⟨v,Yr,[Ur false,Ur false,Ur false,Ur false],Ur false,Yr,[Ur false,Ur false]⟩
theorem Uxa:∀w,(Instr.build 36 #[(3,.bool true)]).run prog w = .ok (.agg (Ur true).toArray) w:=fun w=>by kernel_rfl
structure FiR (w:World) (lv ccs cs0:List Value) (W:World):Prop where
 l:Box W w.heap.size 23 lv.toArray
 c:Box W (w.heap.size+1) 27 ccs.toArray
 r:Box W (w.heap.size+1+1) 55 cs0.toArray
 below:Below w.heap.size w W
section
variable {w W W':World} {lv ccs cs0:List Value} {g:Nat}
theorem FiR.kept (H:FiR w lv ccs cs0 W)(hb:Below W.heap.size W W'):FiR w lv ccs cs0 W':=⟨H.l.kept hb,H.c.kept hb,H.r.kept hb,Ua H.below hb H.below.size⟩
theorem FiR.drew (H:FiR w lv ccs cs0 W):FiR w lv ccs cs0 W.drew:=⟨H.l.drew,H.c.drew,H.r.drew,Ue H.below 1⟩
theorem FiR.far (H:FiR w lv ccs cs0 W)(hc:Chg (fun j=>w.heap.size+1+1<j) W W'):FiR w lv ccs cs0 W' :=
 ⟨H.l.chg hc (by omega),H.c.chg hc (by omega),H.r.chg hc (by omega),⟨hc.os.trans H.below.os,hc.tape.trans H.below.tape,hc.output.trans H.below.output,Xd H.below.size hc.size,fun k hk=>(hc.block k (Xe hk H.below.size) (by omega)).trans (H.below.block k hk)⟩⟩
end
theorem U8a (c:Uag)(lag:Int){R:Rep}(h1:R.lists.length=4)(h2:R.pub.flatten.length=144)(h3:R.fuse.length=36)(h4:R.vs.length=4)(h5:R.reads.flatten.length=72):(Ym (b0N c lag) R).map List.length=Uf0:=by
 have h6:(b0N c lag).cals.list.length=20:=rfl;have h7:(b0N c lag).x.list.length=29:=rfl;have h8:(Ul (b0N c lag).m R.vs).length=19:=Uu h4 rfl;simp only[Ym,List.map_cons,List.map_nil,List.length_singleton,h1,h2,h3,h5,h6,h7,h8]
 rfl
structure FpR (X:Nat→Prop) (w:World) (lv ccs cs0:List Value) (c:Uag) (lag:Int) (ls:List (List (List Int))) (g g8:Nat) (k:Nat) (R:Rep) (W:World):Prop where
 f:FiR w lv ccs cs0 W
 b:Box W g 55 (ncs (b0N c lag) R)
 t:Box W g8 36 (Ur true).toArray
 lt:w.heap.size+1+1<g
 lt8:g<g8
 mem:WdX (fun j=>X j∨(j=g∨j=w.heap.size+1+1)) W R.mem (Zy 87)
 ll:R.lists.length=4
 lists:∀j,j<k→∃es,WsX (fun j=>X j∨(j=g∨j=w.heap.size+1+1)) W (R.lists.getD j (.bool false)) es ((Uno (ls.getD j [])).take 40)
 pub:R.pub=(List.range 4).map (fun j=>Ur (decide (j<k)))
 fuse:R.fuse=Ur false
 vs:R.vs=Yr
 reads:R.reads=[Ur false,Ur false]
theorem FpR.lens {X:Nat→Prop}{w:World}{lv ccs cs0:List Value}{c:Uag}{lag:Int}{ls:List (List (List Int))}{g g8 k:Nat}{R:Rep}{W:World}(H:FpR X w lv ccs cs0 c lag ls g g8 k R W):(Ym (b0N c lag) R).map List.length=Uf0 :=
 U8a c lag H.ll (by rw[H.pub];rfl) (by rw[H.fuse];rfl) (by rw[H.vs];rfl) (by rw[H.reads];rfl)
theorem U6e {X:Nat→Prop}{w:World}{A:Option Addr}{n c m:Nat}{es:List Value}{ls:List (List Int)}(h:WsX X w (.slice A n c) es ls)(hm:m≤n):WsX X w (.slice A m c) (es.take m) (ls.take m):=by
 have hn:n=es.length:=by
  obtain⟨_,A',c',e,_⟩:=h.2.1;injection e
 subst hn;have hml:(es.take m).length=m:=by rw[List.length_take];omega
 have hll:(ls.take m).length=m:=by rw[List.length_take,←h.1];omega
 obtain⟨h0,A',c',e,h1,h2,h3,h4⟩:=h.2.1;injection e with e1 e2 e3
 subst e1 e3;refine⟨by rw[hml,hll],⟨by omega,A,c,by rw[hml],by omega,h2,fun hA=>⟨by rw[hml];have:=(h3 hA).1;omega,(h3 hA).2⟩,fun hp=>?_⟩,?_,fun i hi=>?_⟩
 ·obtain⟨ad,ha,hb,hc⟩:=h4 (by rw[hml] at hp;omega);refine⟨ad,ha,hb,fun j u hu=>hc j u ?_⟩;have hj:j<m:=by have:=(List.getElem?_eq_some_iff.1 hu).1;rw[hml] at this;exact this
  rwa [List.getElem?_take_of_lt hj] at hu
 ·intro a n' c' e hn hx;injection e with e1 e2 e3
  exact h.2.2.1 a es.length c (by rw[e1]) (by omega) hx
 ·rw[hll] at hi;have:=h.2.2.2 i (by rw[←h.1];omega);have e1:(es.take m).getD i (.bool false)=es.getD i (.bool false):=by rw[List.getD_eq_getElem?_getD,List.getElem?_take_of_lt hi,←List.getD_eq_getElem?_getD]
  have e2:(ls.take m).getD i []=ls.getD i []:=by rw[List.getD_eq_getElem?_getD,List.getElem?_take_of_lt hi,←List.getD_eq_getElem?_getD]
  rw[e1,e2];exact this
theorem U6f {b:Bch}{R:Rep}{W:World}{g k:Nat}{cl:List Value}(h:Box W g 55 (ncs b R))(hl:(Ym b R).map List.length=Uf0)(ll:R.lists.length=4)(hp:R.pub.length=4)(h36:∀j,j<R.pub.length→(R.pub.getD j []).length=36)(hk:k<4)(hc:cl.length=36) :
  W.there g (26+k*36) cl.length∧Box (W.setCells g (26+k*36) cl) g 55 (ncs b { R with pub:=R.pub.set k cl }):=by
 have e:(ncs b R).size=345:=Z5 hl;refine⟨h.midThere (by rw[e,hc];omega),?_⟩;have hk':k<R.pub.length:=by rw[hp];exact hk
 have h1:b.cals.list.length=20:=rfl;have h2:=Ul0 h36 k (by rw[hp];omega);rw[Uiu hk'] at h;have:=Box.midSet (vs:=cl) h (o:=26+k*36) (by simp only[U3d,List.length_cons,List.length_append,List.length_nil,h1,ll,h2];omega) (by rw[h36 k hk',hc]);rw[←Ugo hk' R.mem cl] at this;exact this
theorem U06 {k:Nat}(hk:k<4):((List.range 4).map (fun j=>Ur (decide (j<k)))).set k (Ur true)=(List.range 4).map (fun j=>Ur (decide (j<k+1))):=by
 rcases (show k=0∨k=1∨k=2∨k=3 by omega) with rfl|rfl|rfl|rfl<;>rfl
theorem U6g (k:Nat):∀j,j<((List.range 4).map (fun j=>Ur (decide (j<k)))).length→(((List.range 4).map (fun j=>Ur (decide (j<k)))).getD j []).length=36:=fun j hj=>by
 have hj4:j<4:=by simpa using hj
 rcases (show j=0∨j=1∨j=2∨j=3 by omega) with rfl|rfl|rfl|rfl<;>rfl
theorem U9d {α:Type}{a:α}{k:Nat}(hk:k<4):([a,a,a,a]:List α)[k]? = some a:=by
 rcases (show k=0∨k=1∨k=2∨k=3 by omega) with rfl|rfl|rfl|rfl<;>rfl
theorem FpR.fin {X:Nat→Prop}{w:World}{lv ccs cs0:List Value}{c:Uag}{lag:Int}{ls:List (List (List Int))}{g g8:Nat}{R:Rep}{W:World}(H:FpR X w lv ccs cs0 c lag ls g g8 4 R W)(h4:ls.length=4):BnX (fun j=>X j∨(j=g∨j=w.heap.size+1+1)) W { R with fuse:=Ur true,reads:=[Ur true,Ur true] } (Y8 ls c lag):=by
 refine⟨H.mem,H.ll,fun k hk=>?_,by show R.pub.length=4;rw[H.pub];rfl,fun k hk=>⟨Uj1,U9d hk,?_⟩,Utl _ W,⟨by show R.vs.length=4;rw[H.vs];rfl,rfl,fun k hk=>?_⟩,rfl,fun k hk=>⟨Uj1,by rcases (show k=0∨k=1 by omega) with rfl|rfl<;>rfl,?_⟩⟩
 ·obtain⟨es,he⟩:=H.lists k hk;refine⟨es,?_⟩;show WsX _ W _ es ((Unp ls).getD k []);rw[Ura ls (by omega)];exact he
 ·have:R.pub.getD k []=Ur true:=by rw[H.pub];rcases (show k=0∨k=1∨k=2∨k=3 by omega) with rfl|rfl|rfl|rfl<;>rfl
  show TkX _ W (R.pub.getD k []) Uj1;rw[this];exact Utl _ W
 ·show SmX _ W (R.vs.getD k (.bool false)) (Ulr.q.getD k []);rw[H.vs];rcases (show k=0∨k=1∨k=2∨k=3 by omega) with rfl|rfl|rfl|rfl<;>exact SmX.nil _ W
 ·rcases (show k=0∨k=1 by omega) with rfl|rfl<;>exact Utl _ W
theorem Utm {X:Nat→Prop}{w:World}{lv:List Value}{ls:List (List (List Int))}(c:Uag)(lag:Int)(h4:lv.length=4)(hl4:ls.length=4)(hls:∀k,k<4→∃es,WsX X w (lv.getD k (.bool false)) es (ls.getD k []))(hf:∀k,k<4→(ls.getD k []).length≤1000)(hX:∀j,X j→j<w.heap.size) :
  Calls prog 16 #[.agg lv.toArray,Ucf c,.int .i64 lag] w (fun e w'=>∃R,e = .returned (nv (Y8 ls c lag) R)∧BnX X w' R (Y8 ls c lag)∧Below w.heap.size w w'):=by
 have KN:Hid (∀W,Calls prog 32 #[.int .i64 87] W (Ubj (Zy 87) W)):=Qd (fun W=>U2c 87 (by unfold I64;omega) W);have KS:Hid (∀W,Calls prog 26 #[] W (Ub (stv Ub8) W)):=Qd (fun W=>Ugi W);have HLV:=Qd hls;have HLF:=Qd hf;have HXW:=Qd hX;have H4:=Qd h4;have HL4:=Qd hl4;clear hls hf hX h4 hl4;dsimp only[Ucf,Uag.cells];go_enter func16,ntmps16;go_upto_region 1 with fail
 refine Uq fun W0 hW0=>?_
 have D0:∃cs0:List Value,cs0.length=345∧FiR w lv c.list cs0 W0:=by
  rw[hW0];refine⟨(ncs { b0N ⟨⟨⟨0,0,0⟩,0,0⟩,⟨⟨0,0,0⟩,0,0⟩,⟨⟨0,0,0⟩,0,0⟩,⟨⟨0,0,0⟩,0,0⟩⟩ 0 with x:=Uae } (R0N (.slice none 0 0))).toList,by rfl,⟨((Box.new _ _ _).alloc _).alloc _,(Box.at_ (by simp) _ _).alloc _,Box.at_ (by simp) _ _,(((Xb _ w).alloc (Xa _) _).alloc (by simp) _).alloc (by simp;omega) _⟩⟩
 obtain⟨cs0,hz0,d0⟩:=D0;have D1:=Qd d0;have HZ0:=Qd hz0;clear hW0 hz0 d0;go_cut [7] (fun p wx=>∃g v,p = .pointer (some ⟨g,0,none⟩)∧Hid (FiR w lv c.list cs0 wx∧Box wx g 55 (ncs (b0N c lag) (R0N v))∧w.heap.size+1+1<g∧WdX (fun j=>X j∨(j=g∨j=w.heap.size+1+1)) wx v (Zy 87)))
 case first =>
  have SC:Hid ((prog.info? 27).map (·.size)=some c.list.length):=Qd Ua4;refine Xm (S:=fun w'=>FiR w lv c.list cs0 w') (by kernel_rfl) D1.out.drew (fun hHeld=>?_);refine Ux (i:=1) (v := .agg (c.list).toArray) rfl rfl (by kernel_rfl) (by kernel_rfl) (by kernel_rfl) (fun _ _ _ h=>h)
   (Xn (by rfl) 27 _ rfl (w.heap.size+1) (0) rfl (c.list) _ (fun _ h=>h.c.rangeA) underlying27 rfl SC.out) hHeld ?_
  simp only[Qz];refine Qn 2 (.int .i64 lag) ?_;refine Qn 3 (.int .i64 (min lag 1099511627776)) ?_;refine Qn 4 (.int .i64 (max 0 (min lag 1099511627776))) ?_;refine Ut fun V0 hV0=>?_
  have DB0:Hid (FiR w lv c.list cs0 V0):=Qd (by rw[hV0];exact D1.out.drew);replace hHeld:=DB0.out;clear hV0 D1 SC;have HSZ:Hid (∀v,(ncs (b0N c lag) (R0N v)).size=345):=Qd (fun v=>rfl);have HON:Hid (∀{W:World} {a:Option Addr} {n m:Nat},Sl W (.slice a n m) 1 (Zy 87).length (Uam (Zy 87))→(ncs (b0N c lag) (R0N (.slice a n m))).all (·.oneCell')=true):=Qd (fun h=>by kernel_rfl);refine wpAnyH_ready (rs:=[0,7]) (by kernel_rfl) (by simp) ?_;refine Xo rfl (fun KQ hKQ=>?_) (Xo rfl (fun KQ hKQ=>?_) AllReadyH.nil);rotate_right
  focus
   go_simp;refine hKQ.out _ _ (DB0.out.kept ((Xb _ _).alloc (Xa _) _)) (fun hHeld0=>?_);clear hKQ KQ hHeld0;refine Ut fun wb1 hwb1=>?_
   have hba:Below V0.heap.size V0 wb1:=by rw[hwb1];exact(Xb _ _).alloc (Xa _) _
   have GZ0:∃Z,Box wb1 V0.heap.size 55 Z∧Z.size=345∧w.heap.size+1+1<V0.heap.size:=by rw[hwb1];exact⟨_,Box.new _ _ _,rfl,DB0.out.r.lt⟩
   obtain⟨Z9,GZ0⟩:=GZ0;have hHeld:=FiR.kept DB0.out hba;have DB1:=Qd (FiR.kept DB0.out hba);have GZ:=Qd GZ0;clear hwb1 hba GZ0 DB0;generalize V0.heap.size=g9 at GZ ⊢;refine Qc 0 fun KQ hKQ=>?_
   go_simp;refine(KN.out _).mono ?_;rintro e wb2 ⟨v,rfl,ho,hb⟩;have HV:Hid (WdX (fun j=>j<wb1.heap.size∨wb2.heap.size≤j) wb2 v (Zy 87)∧w.heap.size+1+1<wb1.heap.size∧wb2.heap.size≤wb2.heap.size):=Qd ⟨WdX.low (WdX.own ho (fun k hk=>hk)),DB1.out.r.lt,Xa _⟩;have DB2:=Qd (FiR.kept DB1.out hb);have HG:Hid (g9<wb1.heap.size∨wb2.heap.size≤g9):=Qd (Or.inl GZ.out.1.lt);replace GZ:=Qd (Xc (GZ.out.1.kept hb) GZ.out.2);clear ho hb DB1;generalize wb1.heap.size=n1 at HV HG;obtain⟨n2,hn2⟩:∃n2,n2=wb2.heap.size:=⟨_,rfl⟩;have HV2:Hid (WdX (fun j=>j<n1∨n2≤j) wb2 v (Zy 87)∧w.heap.size+1+1<n1∧n2≤wb2.heap.size):=Qd (by rw[hn2];exact HV.out);rw[←hn2] at HG;clear HV hn2;have HV:=HV2;clear HV2;refine hKQ.out _ _ DB2.out (fun hHeld=>?_);clear hKQ KQ;refine Qc 5 fun KQ hKQ=>?_
   go_simp;refine(KS.out _).mono ?_;rintro e wb3 ⟨rfl,hb⟩;have DB3:=Qd (FiR.kept DB2.out hb);replace HV:=Qd (Xc (HV.out.1.chg (Chg.of hb)) (Xc HV.out.2.1 (Xd HV.out.2.2 hb.size)));replace GZ:=Qd (Xc (GZ.out.1.kept hb) GZ.out.2);clear hb DB2;refine hKQ.out _ _ DB3.out (fun hHeld=>?_);clear hKQ KQ;obtain⟨va,vn,vc,rfl⟩:∃a n m,v = .slice a n m:=by obtain⟨a,m,e,_⟩:=HV.out.1.1.1.form;exact⟨a,_,m,e⟩
   refine Qe 6 (nv (b0N c lag) (R0N (.slice va vn vc))) (fun w hW=>?_) ?_
   ·kernel_rfl
   simp only[Qz]
  rotate_right
  focus
   go_simp;refine(KN.out _).mono ?_;rintro e wb1 ⟨v,rfl,ho,hb⟩;have HV:Hid (WdX (fun j=>j<V0.heap.size∨wb1.heap.size≤j) wb1 v (Zy 87)∧w.heap.size+1+1<V0.heap.size∧wb1.heap.size≤wb1.heap.size):=Qd ⟨WdX.low (WdX.own ho (fun k hk=>hk)),DB0.out.r.lt,Xa _⟩;have DB1:=Qd (FiR.kept DB0.out hb);clear ho hb DB0;generalize V0.heap.size=n1 at HV;obtain⟨n2,hn2⟩:∃n2,n2=wb1.heap.size:=⟨_,rfl⟩;have HV2:Hid (WdX (fun j=>j<n1∨n2≤j) wb1 v (Zy 87)∧w.heap.size+1+1<n1∧n2≤wb1.heap.size):=Qd (by rw[hn2];exact HV.out);clear HV hn2;have HV:=HV2;clear HV2;refine hKQ.out _ _ DB1.out (fun hHeld=>?_);clear hKQ KQ;refine wpAnyH_ready (rs:=[5,7]) (by kernel_rfl) (by simp) ?_;refine Xo rfl (fun KQ hKQ=>?_) (Xo rfl (fun KQ hKQ=>?_) AllReadyH.nil);rotate_right
   focus
    go_simp;refine hKQ.out _ _ (DB1.out.kept ((Xb _ _).alloc (Xa _) _)) (fun hHeld0=>?_);clear hKQ KQ hHeld0;refine Ut fun wb2 hwb2=>?_
    have hba:Below wb1.heap.size wb1 wb2:=by rw[hwb2];exact(Xb _ _).alloc (Xa _) _
    have GZ0:∃Z,Box wb2 wb1.heap.size 55 Z∧Z.size=345∧w.heap.size+1+1<wb1.heap.size:=by rw[hwb2];exact⟨_,Box.new _ _ _,rfl,DB1.out.r.lt⟩
    obtain⟨Z9,GZ0⟩:=GZ0;have hHeld:=FiR.kept DB1.out hba;have DB2:=Qd (FiR.kept DB1.out hba);have HG:Hid (wb1.heap.size<n1∨n2≤wb1.heap.size):=Qd (Or.inr HV.out.2.2);replace HV:=Qd (Xc (HV.out.1.chg (Chg.of hba)) (Xc HV.out.2.1 (Xd HV.out.2.2 hba.size)));have GZ:=Qd GZ0;clear hwb2 hba GZ0 DB1;generalize wb1.heap.size=g9 at GZ HG ⊢;refine Qc 5 fun KQ hKQ=>?_
    go_simp;refine(KS.out _).mono ?_;rintro e wb3 ⟨rfl,hb⟩;have DB3:=Qd (FiR.kept DB2.out hb)
   rotate_right
   focus
    go_simp;refine(KS.out _).mono ?_;rintro e wb2 ⟨rfl,hb⟩;have DB2:=Qd (FiR.kept DB1.out hb)
   all_goals
    replace HV:=Qd (Xc (HV.out.1.chg (Chg.of hb)) (Xc HV.out.2.1 (Xd HV.out.2.2 hb.size)))
   rotate_right
   focus
    replace GZ:=Qd (Xc (GZ.out.1.kept hb) GZ.out.2);clear hb DB2;refine hKQ.out _ _ DB3.out (fun hHeld=>?_)
   rotate_right
   focus
    clear hb DB1;refine hKQ.out _ _ DB2.out (fun hHeld=>?_)
   all_goals
    clear hKQ KQ;obtain⟨va,vn,vc,rfl⟩:∃a n m,v = .slice a n m:=by obtain⟨a,m,e,_⟩:=HV.out.1.1.1.form;exact⟨a,_,m,e⟩
    refine Qe 6 (nv (b0N c lag) (R0N (.slice va vn vc))) (fun w hW=>?_) ?_
    ·kernel_rfl
    simp only[Qz]
   rotate_right;rotate_right
   focus
    refine Qc 7 fun KQ hKQ=>?_
    go_simp;refine hKQ.out _ _ (DB2.out.kept ((Xb _ _).alloc (Xa _) _)) (fun hHeld0=>?_);clear hKQ KQ hHeld0;refine Ut fun wb3 hwb3=>?_
    have hba:Below wb2.heap.size wb2 wb3:=by rw[hwb3];exact(Xb _ _).alloc (Xa _) _
    have GZ0:∃Z,Box wb3 wb2.heap.size 55 Z∧Z.size=345∧w.heap.size+1+1<wb2.heap.size:=by rw[hwb3];exact⟨_,Box.new _ _ _,rfl,DB2.out.r.lt⟩
    obtain⟨Z9,GZ0⟩:=GZ0;have hHeld:=FiR.kept DB2.out hba;have DB3:=Qd (FiR.kept DB2.out hba);have HG:Hid (wb2.heap.size<n1∨n2≤wb2.heap.size):=Qd (Or.inr HV.out.2.2);replace HV:=Qd (Xc (HV.out.1.chg (Chg.of hba)) (Xc HV.out.2.1 (Xd HV.out.2.2 hba.size)));have GZ:=Qd GZ0;clear hwb3 hba GZ0 DB2;generalize wb2.heap.size=g9 at GZ HG ⊢
  all_goals
   refine Qc 8 fun KQ hKQ=>?_
   rw[if_pos (by rfl)];refine wp_store_mid 55 _ _ rfl g9 0 (ncs (b0N c lag) (R0N (.slice va vn vc))) rfl rfl (GZ.out.1.thereAll (by rw[GZ.out.2.1];exact(HSZ.out _).symm)) (by rw[HSZ.out];exact Uut) (HON.out HV.out.1.1.1) ?_;refine Uh6 fun W8 hW8=>?_
   have FZ8:Hid (FiR w lv c.list cs0 W8∧Box W8 g9 55 (ncs (b0N c lag) (R0N (.slice va vn vc)))∧w.heap.size+1+1<g9∧WdX (fun j=>X j∨(j=g9∨j=w.heap.size+1+1)) W8 (.slice va vn vc) (Zy 87)):=Qd (by
    have hc:Chg (fun j=>j=g9) wb3 W8:=by rw[hW8];exact Chg.setCells (X:=fun j=>j=g9) rfl _ _
    have hbx:Box W8 g9 55 (ncs (b0N c lag) (R0N (.slice va vn vc))):=by rw[hW8];exact GZ.out.1.setCells_all (by rw[Array.length_toList,HSZ.out,GZ.out.2.1])
    exact⟨DB3.out.far (hc.mono (fun k _ e=>by rw[e];exact GZ.out.2.2)),hbx,GZ.out.2.2,(HV.out.1.chg (hc.mono (fun k _ e=>by rw[e];exact HG.out))).mono (fun j hj=>by rcases hj with hj|hj|hj;(· exact Or.inl (by have h1:=HXW.out j hj;have h2:=HV.out.2.1;omega));(· rw[hj];exact HG.out);rw[hj];exact Or.inl HV.out.2.1)⟩)
   clear hW8 DB3 HV GZ HG;go_simp;refine hKQ.out _ _ FZ8.out.1 (fun hHeld=>?_);clear hKQ KQ;refine Xl (by kernel_rfl) ?_ _;go_wp2_with fail;go_meet
   case rel=>exact⟨g9,_,rfl,FZ8⟩
 case rest =>
  obtain⟨g,v,rfl,FZ⟩:=hcut;have S36:Hid ((prog.info? 36).map (·.size)=some (Ur true).toArray.size∧(Ur true).toArray.all (·.oneCell')=true):=Qd ⟨by kernel_rfl,by kernel_rfl⟩;go_wp2_with (with_reducible first|refine Qk 36 ?_|refine Qh 36 ?_|refine Qg 36 ?_|refine Qj 36 ?_|refine Qg 55 ?_|refine Qh 55 ?_);refine Ubm.go _ (by simp only[List.map_toArray,List.map_cons,List.map_nil];exact Uxa _) ?_;go_wp2_with (with_reducible first|refine Qk 36 ?_|refine Qh 36 ?_|refine Qg 36 ?_|refine Qj 36 ?_|refine Qg 55 ?_|refine Qh 55 ?_);refine Uf.go wc.heap.size rfl rfl (Box.new _ _ _) S36.out.1 rfl S36.out.2 ?_;go_upto_region 3 with fail
  refine Uq fun W2 hW2=>?_
  have P0:Hid (FpR X w lv c.list cs0 c lag ls g wc.heap.size 0 (R0N v) W2):=Qd (by
   have hb:Below wc.heap.size wc W2:=by rw[hW2];exact Uc ((Xb _ wc).alloc (Xa _) _) (Xa _) _
   exact⟨FZ.out.1.kept hb,FZ.out.2.1.kept hb,by rw[hW2];exact(Box.new _ _ _).row _,FZ.out.2.2.1,FZ.out.2.1.lt,FZ.out.2.2.2.chg (Chg.of hb),rfl,fun j hj=>absurd hj (by omega),rfl,rfl,rfl,rfl⟩)
  clear hW2 FZ;generalize wc.heap.size=g8 at *;go_wp2_with fail;go_loopw [19] (fun i wr=>∃(k:Nat) (R:Rep),k≤4∧i = .int .i64 (k:Int)∧Hid (FpR X w lv c.list cs0 c lag ls g g8 k R wr)) (fun i _=>4-(intOf i).toNat)
  case atStart=>exact⟨0,R0N v,by omega,rfl,P0⟩
  case round =>
   obtain⟨k,R,hk,rfl,HR⟩:=hrel;clear P0;by_cases hlt:k<4;rotate_right
   focus
    obtain rfl:k=4:=by omega
    have S36L:Hid ((prog.info? 36).map (·.size)=some (Ur true).length):=Qd (by kernel_rfl);have S72:Hid ((prog.info? 53).map (·.size)=some (Ur true++Ur true).toArray.size∧(Ur true++Ur true).toArray.all (·.oneCell')=true):=Qd ⟨by kernel_rfl,by kernel_rfl⟩;have HQ:=Qd (HR.out.fin HL4.out);have L1:=Qd HR.out.lens;have L2:Hid ((Ym (b0N c lag) { R with fuse:=Ur true }).map List.length=Uf0):=Qd (U8a c lag HR.out.ll (by show R.pub.flatten.length=144;rw[HR.out.pub];rfl) rfl (by show R.vs.length=4;rw[HR.out.vs];rfl) (by show R.reads.flatten.length=72;rw[HR.out.reads];rfl))
    have SB1:Hid (∀W,Box W g 55 (ncs (b0N c lag) R)→W.there g 186 (Ur true).toArray.size∧Box (W.setCells g 186 (Ur true)) g 55 (ncs (b0N c lag) { R with fuse:=Ur true })):=Qd (fun W h=>⟨h.midThere (by rw[show(ncs (b0N c lag) R).size=345 from Z5 L1.out];decide),by
     have:=Uo6 (S:=Ym (b0N c lag) R) h L1.out 9 (o:=186) (vs:=Ur true) (by decide) rfl (by show R.fuse.length=36;rw[HR.out.fuse];rfl)
     exact this⟩)
    have SB2:Hid (∀W,Box W g 55 (ncs (b0N c lag) { R with fuse:=Ur true })→W.there g 273 (Ur true++Ur true).toArray.size∧Box (W.setCells g 273 (Ur true++Ur true)) g 55 (ncs (Y8 ls c lag) { R with fuse:=Ur true,reads:=[Ur true,Ur true] })):=Qd (fun W h=>⟨h.midThere (by rw[show(ncs (b0N c lag) { R with fuse:=Ur true }).size=345 from Z5 L2.out];decide),by
     have:=Uo6 (S:=Ym (b0N c lag) { R with fuse:=Ur true }) h L2.out 15 (o:=273) (vs:=Ur true++Ur true) (by decide) rfl (by show R.reads.flatten.length=72;rw[HR.out.reads];rfl)
     exact this⟩)
    have HFR:=Qd HR.out.f;have HFB:=Qd HR.out.b;have HFT:=Qd HR.out.t;have HLT:=Qd (Xc HR.out.lt HR.out.lt8);clear HR L1 L2;go_upto_region 10 with fail
    refine Xm (S:=fun w'=>Box w' g8 36 (Ur true).toArray) (by kernel_rfl) HFT.out.drew (fun hHeld=>?_);refine Ux (i:=0) (v := .agg (Ur true).toArray) rfl rfl (by kernel_rfl) (by kernel_rfl) (by kernel_rfl) (fun _ _ _ h=>h)
     (Xn (by rfl) 36 _ rfl (g8) (0) rfl (Ur true) _ (fun _ h=>h.rangeA) underlying36 rfl S36L.out) hHeld ?_
    simp only[Qz];refine Ux (i:=1) (v := .agg (Ur true).toArray) rfl rfl (by kernel_rfl) (by kernel_rfl) (by kernel_rfl) (fun _ _ _ h=>h)
     (Xn (by rfl) 36 _ rfl (g8) (0) rfl (Ur true) _ (fun _ h=>h.rangeA) underlying36 rfl S36L.out) hHeld ?_
    simp only[Qz];refine Ux (i:=2) (v := .agg (Ur true).toArray) rfl rfl (by kernel_rfl) (by kernel_rfl) (by kernel_rfl) (fun _ _ _ h=>h)
     (Xn (by rfl) 36 _ rfl (g8) (0) rfl (Ur true) _ (fun _ h=>h.rangeA) underlying36 rfl S36L.out) hHeld ?_
    simp only[Qz];refine Qe 3 (.agg (Ur true++Ur true).toArray) (fun w hW=>?_) ?_
    ·kernel_rfl
    simp only[Qz];refine Qn 4 (.pointer (some ⟨g,186,none⟩)) ?_;refine Ut fun V0 hV0=>?_
    have DF:Hid (FiR w lv c.list cs0 V0∧Box V0 g 55 (ncs (b0N c lag) R)∧Box V0 g8 36 (Ur true).toArray∧BnX (fun j=>X j∨(j=g∨j=w.heap.size+1+1)) V0 { R with fuse:=Ur true,reads:=[Ur true,Ur true] } (Y8 ls c lag)):=Qd (by rw[hV0];exact⟨HFR.out.drew,HFB.out.drew,HFT.out.drew,HQ.out.chg ((Chg.refl _ _).drew)⟩);clear hV0 HFR HFB HFT HQ;replace hHeld:=DF.out.2.2.1;have P1:=Qd (SB1.out _ DF.out.2.1);refine Qc 5 fun KQ hKQ=>?_
    rw[if_pos (by rfl)];refine wp_store_mid 36 _ _ rfl g 186 (Ur true).toArray rfl rfl P1.out.1 S36.out.1 S36.out.2 ?_;refine Uh6 fun V1 hV1=>?_
    have DG:Hid (FiR w lv c.list cs0 V1∧Box V1 g 55 (ncs (b0N c lag) { R with fuse:=Ur true })∧Box V1 g8 36 (Ur true).toArray∧BnX (fun j=>X j∨(j=g∨j=w.heap.size+1+1)) V1 { R with fuse:=Ur true,reads:=[Ur true,Ur true] } (Y8 ls c lag)):=Qd (by
     have hWe:V1=V0.setCells g 186 (Ur true):=hV1;have hc:Chg (fun j=>j=g) V0 V1:=by rw[hWe];exact Chg.setCells (X:=fun j=>j=g) rfl _ _
     have hB:=P1.out.2;rw[←hWe] at hB
     exact⟨DF.out.1.far (hc.mono (fun _ _ e=>by rw[e];exact HLT.out.1)),hB,DF.out.2.2.1.chg hc (by have:=HLT.out.2;omega),DF.out.2.2.2.chg (hc.mono (fun _ _ e=>Or.inr (Or.inl e)))⟩)
    clear hV1 DF P1 SB1;go_simp;refine hKQ.out _ _ DG.out.2.2.1 (fun hHeld=>?_);clear hKQ KQ;refine Qn 6 (.pointer (some ⟨g,273,none⟩)) ?_;have P2:=Qd (SB2.out _ DG.out.2.1);refine Qc 7 fun KQ hKQ=>?_
    rw[if_pos (by rfl)];refine wp_store_mid 53 _ _ rfl g 273 (Ur true++Ur true).toArray rfl rfl P2.out.1 S72.out.1 S72.out.2 ?_;refine Uh6 fun V2 hV2=>?_
    have DH:Hid (FiR w lv c.list cs0 V2∧Box V2 g 55 (ncs (Y8 ls c lag) { R with fuse:=Ur true,reads:=[Ur true,Ur true] })∧Box V2 g8 36 (Ur true).toArray∧BnX (fun j=>X j∨(j=g∨j=w.heap.size+1+1)) V2 { R with fuse:=Ur true,reads:=[Ur true,Ur true] } (Y8 ls c lag)):=Qd (by
     have hWe:V2=V1.setCells g 273 (Ur true++Ur true):=hV2;have hc:Chg (fun j=>j=g) V1 V2:=by rw[hWe];exact Chg.setCells (X:=fun j=>j=g) rfl _ _
     have hB:=P2.out.2;rw[←hWe] at hB
     exact⟨DG.out.1.far (hc.mono (fun _ _ e=>by rw[e];exact HLT.out.1)),hB,DG.out.2.2.1.chg hc (by have:=HLT.out.2;omega),DG.out.2.2.2.chg (hc.mono (fun _ _ e=>Or.inr (Or.inl e)))⟩)
    clear hV2 DG P2 SB2;go_simp;refine hKQ.out _ _ DH.out.2.2.1 (fun hHeld=>?_);clear hKQ KQ;refine Xl (by kernel_rfl) ?_ _;clear hHeld
    have SN:Hid ((prog.info? 55).map (·.size)=some (ncs (Y8 ls c lag) { R with fuse:=Ur true,reads:=[Ur true,Ur true] }).size∧cs0.toArray.size=(ncs (Y8 ls c lag) { R with fuse:=Ur true,reads:=[Ur true,Ur true] }).size∧(ncs (Y8 ls c lag) { R with fuse:=Ur true,reads:=[Ur true,Ur true] }).all (·.oneCell')=true):=Qd (by
     have hs:=Uc4 ls HL4.out c lag;have e:(ncs (Y8 ls c lag) { R with fuse:=Ur true,reads:=[Ur true,Ur true] }).size=345:=Z5 (DH.out.2.2.2.lens hs)
     exact⟨Uaw DH.out.2.2.2 hs,by rw[e,List.size_toArray,HZ0.out],Ugq DH.out.2.2.2⟩)
   rotate_right
   focus
    have hki:(k:Int)<4:=by omega
    have hk0:(0:Int)≤(k:Int):=by omega
    obtain⟨es,hes⟩:=HLV.out k hlt;have hln:=HLF.out k hlt;have KC:Hid (∀W,Below w.heap.size w W→Calls prog 34 #[lv.getD k (.bool false)] W (fun e w'=>∃v',e = .returned v'∧w'.ownsRow W.heap.size 31 1 v' es.length es∧Below W.heap.size W w')):=Qd (fun W hb=>Uq6 (hes.below hb) (by omega));have HES:=Qd hes;have xl:wr.cell? ⟨w.heap.size,k,none⟩=some (lv.getD k (.bool false)):=by
     have:=HR.out.f.l.cell k;rw[this,List.getElem?_toArray,List.getD_eq_getElem?_getD,Xj (by rw[H4.out];exact hlt)]
     rfl
    have KD:Hid (∀{W:World} {B:Nat} {v:Value},W.ownsRow B 31 1 v es.length es→B≤W.heap.size→Calls prog 33 #[v,.func (.func 35) #[] #[]] W (U03 B (Ue9 es (ls.getD k [])) W)):=Qd (fun ho hB=>U05 ho hB hes.1 (fun i hi=>by obtain⟨a,m,e,_⟩:=(hes.2.2.2 i hi).1.1.form;exact⟨a,m,e⟩) (by rw[hes.1];omega));clear hes hln;generalize lv.getD k (.bool false)=vk at *;go_wp2_with fail;refine(KC.out _ HR.out.f.below).mono ?_;rintro e w5 ⟨v5,rfl,ho,hb⟩;have KD1:=Qd (KD.out ho hb.size);have HB5:=Qd hb;clear ho hb KC KD xl;go_wp2_with fail;refine KD1.out.mono ?_;rintro e w6 ⟨v6,rfl,hsl,hoff,hb6⟩;have HB6:Hid (Below wr.heap.size wr w6):=Qd (HB5.out.trans hb6)
    have HW6:Hid (WsX (fun j=>X j∨(j=g∨j=w.heap.size+1+1)) w6 v6 (Ue9 es (ls.getD k [])) (Uno (ls.getD k []))):=Qd ⟨U3j es _ HES.out.1,hsl,hoff _ (fun j hj=>by rcases hj with hj|hj|hj;(· exact Xe (HXW.out j hj) HR.out.f.below.size);(· rw[hj];exact HR.out.b.lt);rw[hj];exact HR.out.f.r.lt),fun i hi=>by
     obtain⟨j,h1,h2,h3⟩:=U6d es _ HES.out.1 i hi;rw[h2,h3];have:=((HES.out.2.2.2 j h1).low.chg (Chg.of HR.out.f.below)).chg (Chg.of HB6.out)
     exact this.mono (fun j hj=>by rcases hj with hj|hj|hj;(· exact Or.inl hj);(· rw[hj];exact Or.inr (by have:=HR.out.lt;omega));rw[hj];exact Or.inr (by omega))⟩
    have P6:Hid (FpR X w lv c.list cs0 c lag ls g g8 k R w6):=Qd ⟨HR.out.f.kept HB6.out,HR.out.b.kept HB6.out,HR.out.t.kept HB6.out,HR.out.lt,HR.out.lt8,HR.out.mem.chg (Chg.of HB6.out),HR.out.ll,fun j hj=>by obtain⟨e,he⟩:=HR.out.lists j hj;exact⟨e,he.chg (Chg.of HB6.out)⟩,HR.out.pub,HR.out.fuse,HR.out.vs,HR.out.reads⟩;obtain⟨A6,c6,rfl,hc1,hc2⟩:=HW6.out.form;clear hsl hoff hb6 HB5 HB6 KD1 HES HR;generalize Ue9 es (ls.getD k [])=es6 at *;obtain⟨m6,hm6⟩:∃m,(Uno (ls.getD k [])).length=m:=⟨_,rfl⟩;rw[hm6] at HW6 hc1 ⊢;have HM6:=Qd hm6;clear hm6;obtain⟨mm,hmm⟩:∃mm:Nat,mm=min m6 40:=⟨_,rfl⟩;have hmin:min (m6:Int) 40=(mm:Int):=by omega
    have hm6:mm≤m6:=by omega
    have hmc:(mm:Int)≤(c6:Int):=by omega
    have hm0:(0:Int)≤(mm:Int):=by omega
    have HWT:Hid (WsX (fun j=>X j∨(j=g∨j=w.heap.size+1+1)) w6 (.slice A6 mm c6) (es6.take mm) ((Uno (ls.getD k [])).take 40)):=Qd (by
     have e:(Uno (ls.getD k [])).take 40=(Uno (ls.getD k [])).take mm:=by
      rcases Nat.le_total m6 40 with h|h
      ·rw[List.take_of_length_le (by rw[HM6.out];exact h),List.take_of_length_le (by rw[HM6.out];omega)]
      ·rw[show mm=40 by omega]
     rw[e]
     exact U6e HW6.out hm6)
    have xg:w6.cell? ⟨g,21+k,none⟩=some (R.lists.getD k (.bool false)):=Z4 (S:=Ym (b0N c lag) R) P6.out.b P6.out.lens 2 k (o:=21) (by decide) rfl (by show R.lists[k]? = _;rw[List.getD_eq_getElem?_getD,Xj (by rw[P6.out.ll];exact hlt)];rfl);have fg:=P6.out.b.frozen (21+k);clear HW6 hmm hm6 hc1 HM6;generalize R.lists.getD k (.bool false)=old at *;go_upto_region 8 with fail
    refine Uq fun W7 hW7=>?_
    have P7:Hid (FpR X w lv c.list cs0 c lag ls g g8 k { R with lists:=R.lists.set k (.slice A6 mm c6) } W7∧(∃es,WsX (fun j=>X j∨(j=g∨j=w.heap.size+1+1)) W7 (.slice A6 mm c6) es ((Uno (ls.getD k [])).take 40))):=Qd (by
     have hc:Chg (fun j=>j=g) w6 W7:=by rw[hW7];exact Chg.setCell (X:=fun j=>j=g) (p:=⟨g,21+k,none⟩) rfl _
     have hB:Box W7 g 55 (ncs (b0N c lag) { R with lists:=R.lists.set k (.slice A6 mm c6) }):=by
      rw[hW7];exact Ue5 (S:=Ym (b0N c lag) R) P6.out.b P6.out.lens 2 k (o:=21) (by decide) rfl (by show k<R.lists.length;rw[P6.out.ll];exact hlt) _
     have hcx:=hc.mono (Y:=fun j=>X j∨(j=g∨j=w.heap.size+1+1)) (fun _ _ e=>Or.inr (Or.inl e));refine⟨⟨P6.out.f.far (hc.mono (fun _ _ e=>by rw[e];exact P6.out.lt)),hB,P6.out.t.chg hc (by have:=P6.out.lt8;omega),P6.out.lt,P6.out.lt8,P6.out.mem.chg hcx,by rw[List.length_set];exact P6.out.ll,fun j hj=>?_,P6.out.pub,P6.out.fuse,P6.out.vs,P6.out.reads⟩,_,HWT.out.chg hcx⟩;obtain⟨e,he⟩:=P6.out.lists j hj;refine⟨e,?_⟩;show WsX _ W7 ((R.lists.set k (.slice A6 mm c6)).getD j (.bool false)) e _;rw[Zp (by omega)]
     exact he.chg hcx)
    clear hW7 P6 HWT xg fg hmin hmc hm0
   all_goals
    go_wp2_with (with_reducible first|refine Qk 36 ?_|refine Qg 36 ?_|refine Qj 36 ?_|refine Qg 55 ?_|refine Qh 55 ?_)
   rotate_right
   focus
    refine Uo.go g rfl DH.out.2.1 underlying55 rfl SN.out.1 ?_
   rotate_right
   focus
    refine Uo.go g8 rfl P7.out.1.t underlying36 rfl S36.out.1 ?_;have PS:=Qd (U6f (cl:=Ur true) P7.out.1.b P7.out.1.lens P7.out.1.ll (by rw[P7.out.1.pub];rfl) (by rw[P7.out.1.pub];exact U6g k) hlt rfl)
   all_goals
    go_wp2_with (with_reducible first|refine Qk 36 ?_|refine Qg 36 ?_|refine Qj 36 ?_|refine Qg 55 ?_|refine Qh 55 ?_)
   ·refine Uai.go g (26+k*36) (cs:=Ur true) rfl rfl PS.out.1 S36.out.1 S36.out.2 ?_;go_upto_region 9 with fail
    refine Uq fun W8 hW8=>?_
    have P8:Hid (FpR X w lv c.list cs0 c lag ls g g8 (k+1) { R with lists:=R.lists.set k (.slice A6 mm c6),pub:=R.pub.set k (Ur true) } W8):=Qd (by
     have hc:Chg (fun j=>j=g) W7 W8:=by rw[hW8];exact Chg.setCells (X:=fun j=>j=g) rfl _ _
     have hB:=PS.out.2;rw[←hW8] at hB;have hcx:=hc.mono (Y:=fun j=>X j∨(j=g∨j=w.heap.size+1+1)) (fun _ _ e=>Or.inr (Or.inl e));have H:=P7.out.1;refine⟨H.f.far (hc.mono (fun _ _ e=>by rw[e];exact H.lt)),hB,H.t.chg hc (by have:=H.lt8;omega),H.lt,H.lt8,H.mem.chg hcx,H.ll,fun j hj=>?_,?_,H.fuse,H.vs,H.reads⟩
     ·by_cases hjk:j=k
      ·subst hjk;obtain⟨e,he⟩:=P7.out.2;refine⟨e,?_⟩;show WsX _ W8 ((R.lists.set j (.slice A6 mm c6)).getD j (.bool false)) e _;rw[Zc (by have:=H.ll;rw[List.length_set] at this;omega)];exact he.chg hcx
      ·obtain⟨e,he⟩:=H.lists j (by omega);exact⟨e,he.chg hcx⟩
     ·show R.pub.set k (Ur true)=_;have hp:=H.pub;dsimp only at hp;rw[hp]
      exact U06 hlt)
    clear hW8 P7 PS;go_wp2_with fail;go_roundw
    case rel=>exact⟨k+1,_,by omega,by go_num,P8⟩
    case measure=>simp[intOf];omega
   ·refine Uf.go (w.heap.size+1+1) rfl rfl DH.out.1.r SN.out.1 SN.out.2.1 SN.out.2.2 ?_;go_wp2_with fail;exact Xk (results_cell_row results16 _ _ (w.heap.size+1+1) 55 _ (0,0) _ rfl (DH.out.1.r.row _) underlying55 rfl SN.out.1) rfl ⟨_,rfl,(DH.out.2.2.2.chg (Chg.setRow (Or.inr (Or.inr rfl)) _)).mono (fun _ h=>Or.inl h),Uc DH.out.1.below (by omega) _⟩
end Go.Proofs.YtdaflmjfeoacaaaGreat
