/- Part of the proof of TopTry, TopSplit: BeS, BeT, ToE, ToA. Conditions: none. -/
import Derived.Test.YtdaflmjfeoacaaaGreatZbbs
import Derived.Test.YtdaflmjfeoacaaaGreatZbbt
import Derived.Test.YtdaflmjfeoacaaaGreatZbbq
set_option linter.all false
set_option maxHeartbeats 16000000
set_option maxRecDepth 4000
namespace Go.Proofs.YtdaflmjfeoacaaaGreat
open Tryz
open Go.RowKit Go.Shelf
theorem U80 (b:Bch):(popF b).x=b.x:=by unfold popF;split<;>rfl
theorem U4q {n:Int}{b:Bch}(h:Ya n b):Ual (fuseN b).x:=by
 unfold fuseN;split
 ·split
  ·exact h.x
  ·unfold mergeF;split
   ·exact Upd _ _ _
   ·show Ual (popF (stepF b)).x;rw[U80];exact h.x
 ·exact h.x
theorem U81 (b:Bch)(k:Nat):(pubN b k).x=b.x:=by
 have h:(stepP b k).x=b.x:=by unfold stepP;split<;>rfl
 unfold pubN;split
 ·split<;>exact h
 ·exact h
theorem U8b {n:Int}{b:Bch}(h:Ya n b)(p:Int):Ual (Uh2 b p).x:=by
 unfold Uh2;split
 ·split
  ·exact h.x
  ·rw[U81];exact h.x
 ·split
  ·exact U4q h
  ·exact h.x
theorem Ya.turns {n:Int}{b:Bch}(h:Ya n b)(p:Int):Ya (n+1) (Uh2 b p):=h.turn p (U8b h p)
theorem Ya.plays {b:Bch}:∀(ps:List Int) (n:Int),Ya n b→Ya (n+ps.length) (Uax b ps):=by
 intro ps
 induction ps generalizing b with
 | nil=>intro n h;simpa [Uax] using h
 | cons p ps ih =>
  intro n h;have:=ih (n+1) (h.turns p);rw[show n+((p::ps).length:Int)=n+1+(ps.length:Int) by rw[List.length_cons];omega];exact this
theorem U1f (b:Bch)(ps:List Int){i:Nat}{p:Int}(h:ps[i]? = some p):Uax b (ps.take (i+1))=Uh2 (Uax b (ps.take i)) p:=by
 obtain⟨hi,rfl⟩:=List.getElem?_eq_some_iff.1 h;unfold Uax;rw[List.take_succ_eq_append_getElem hi,List.foldl_append]
 rfl
def PkX (X:Nat→Prop)(w:World)(v:Value)(ps:List Int):Prop:=Sl w v 1 ps.length (Ucb ps)∧Ud0 X v∧∀p,p∈ps→I64 p
theorem PkX.chg {X:Nat→Prop}{w w':World}{v:Value}{ps:List Int}(h:PkX X w v ps)(hc:Chg X w w'):PkX X w' v ps:=⟨h.1.chg h.2.1 hc,h.2.1,h.2.2⟩
theorem PkX.low {X:Nat→Prop}{w:World}{v:Value}{ps:List Int}(h:PkX X w v ps):PkX (fun k=>X k∨w.heap.size≤k) w v ps:=⟨h.1,Uhu h.1 h.2.1,h.2.2⟩
theorem PkX.mono {X Y:Nat→Prop}{w:World}{v:Value}{ps:List Int}(h:PkX X w v ps)(hY:∀k,Y k→X k):PkX Y w v ps:=⟨h.1,h.2.1.mono hY,h.2.2⟩
theorem PkX.form {X:Nat→Prop}{w:World}{v:Value}{ps:List Int}(h:PkX X w v ps):∃A c,v = .slice A ps.length c∧ps.length≤c∧c≤maxLen:=by
 obtain⟨A,c,e,h1,h2,_⟩:=h.1.form;exact⟨A,c,e,h1,h2⟩
theorem PkX.at_ {X:Nat→Prop}{w:World}{A:Option Addr}{n c i:Nat}{ps:List Int}{p:Int}(h:PkX X w (.slice A n c) ps)(hi:ps[i]? = some p):∃b off,A=some ⟨b,off,none⟩∧b<w.heap.size∧w.cell? ⟨b,off+i,none⟩=some (.int .i64 p):=by
 have hn:n=ps.length:=by
  obtain⟨_,A',c',e,_⟩:=h.1;injection e
 subst hn;have hil:=(List.getElem?_eq_some_iff.1 hi).1;obtain⟨b,off,rfl,hb,hc⟩:=Sl.at_ h.1 (by omega) (by omega);exact⟨b,off,rfl,hb,hc i _ (by unfold Ucb;rw[List.getElem?_map,hi];rfl)⟩
structure PyR (X:Nat→Prop) (w:World) (gl:Nat) (v:Value) (ps:List Int) (b:Bch) (R:Rep) (W:World):Prop where
 g:Box W w.heap.size 55 (ncs b R)
 l:Box W gl 55 (ncs b R)
 x:BnX (fun j=>X j∨(j=w.heap.size∨j=gl)) W R b
 p:PkX (fun j=>j=w.heap.size∨j=gl) W v ps
 c:Chg (fun j=>j=gl) w W
theorem U6n (p:Int) : -7<p.tmod 7∧p.tmod 7<7∧(p.tmod 7+7).tmod 7=(Ue8 p:Int):=by
 have h:=Ux4 (n:=7) (by omega) p;have e:(((7:Nat)):Int)=7:=rfl;rw[e] at h;exact⟨h.1,h.2.1,h.2.2.1⟩
theorem U6o {w W W':World}{g gl:Nat}(h:Chg (fun j=>j=gl) w W)(h':Chg (fun j=>j=g) W W')(hg:w.heap.size≤g):Chg (fun j=>j=gl) w W' :=
 ⟨h'.os.trans h.os,h'.tape.trans h.tape,h'.output.trans h.output,Xd h.size h'.size,fun k hk hX=>(h'.block k (Xe hk h.size) (by omega)).trans (h.block k hk hX)⟩
theorem PyR.next {X:Nat→Prop}{w W W1 W2:World}{gl:Nat}{v:Value}{ps:List Int}{b b':Bch}{R R':Rep}(H:PyR X w gl v ps b R W)(hgl:gl<w.heap.size)(h1:Box W1 w.heap.size 55 (ncs b' R'))(h2:BnX (fun j=>X j∨(j=w.heap.size∨j=gl)) W1 R' b')(h3:Chg (fun j=>j=w.heap.size) W W1)
  (k1:Box W2 gl 55 (ncs b' R')) (k2:Chg (fun j=>j=gl) W1 W2):PyR X w gl v ps b' R' W2 :=
 ⟨h1.chg k2 (by omega),k1,h2.chg (k2.mono (fun _ _ e=>Or.inr (Or.inr e))),(H.p.chg (h3.mono (fun _ _ e=>Or.inl e))).chg (k2.mono (fun _ _ e=>Or.inr e)),(U6o H.c h3 (Xa _)).trans k2⟩
theorem PyR.drew {X:Nat→Prop}{w W:World}{gl:Nat}{v:Value}{ps:List Int}{b:Bch}{R:Rep}(H:PyR X w gl v ps b R W):PyR X w gl v ps b R W.drew:=⟨H.g.drew,H.l.drew,H.x.chg ((Chg.refl _ _).drew),H.p.chg ((Chg.refl _ _).drew),H.c.drew⟩
theorem PyR.show {X:Nat→Prop}{w W W1:World}{gl:Nat}{v:Value}{ps:List Int}{b b':Bch}{R R':Rep}{n n':Int}(H:PyR X w gl v ps b R W)(hs:Ya n b)(hs':Ya n' b')(hgl:gl<w.heap.size)(h1:Box W1 w.heap.size 55 (ncs b' R'))(h2:BnX (fun j=>X j∨(j=w.heap.size∨j=gl)) W1 R' b')(h3:Chg (fun j=>j=w.heap.size) W W1) :
  Calls prog 18 #[.agg (ncs b' R'),.pointer (some ⟨gl,0,none⟩)] W1 (fun e w'=>e = .returned (.tuple #[])∧PyR X w gl v ps b' R' w') :=
 (Uw8 h2 hs' (H.l.chg h3 (by omega)) (Z5 (H.x.lens hs))).mono fun _ _ ⟨e,k1,k2⟩=>⟨e,H.next hgl h1 h2 h3 k1 k2⟩
theorem PyR.lt {X:Nat→Prop}{w W:World}{gl:Nat}{v:Value}{ps:List Int}{b:Bch}{R:Rep}(H:PyR X w gl v ps b R W)(hX:∀j,X j→j<w.heap.size):∀j,(X j∨(j=w.heap.size∨j=gl))→j<W.heap.size:=fun j hj=>by
 rcases hj with hj|hj|hj
 ·exact Xe (hX j hj) H.c.size
 ·rw[hj];exact H.g.lt
 ·rw[hj];exact H.l.lt
theorem Uxi {X:Nat→Prop}{w:World}{R:Rep}{b:Bch}{n:Int}{gl:Nat}{v:Value}{ps:List Int}(h:BnX (fun j=>X j∨j=gl) w R b)(hs:Ya n b)(hn:n+ps.length≤1000000)(hX:∀j,X j→j<w.heap.size)(hg:Box w gl 55 (ncs b R))(hp:PkX (fun j=>j=gl) w v ps) :
  Calls prog 17 #[nv b R,v,.func (.func 18) #[] #[.pointer (some ⟨gl,0,none⟩)]] w (fun e w'=>e = .returned (.tuple #[])∧∃R',Box w' gl 55 (ncs (Uax b ps) R')∧BnX X w' R' (Uax b ps)∧Chg (fun j=>j=gl) w w'):=by
 have hgl:=hg.lt;have P0:Hid (PyR X w gl v ps b R (w.alloc (.cells (ncs b R) 55))):=Qd ⟨Box.new _ _ _,hg.alloc _,(h.low.chg (Chg.of ((Xb _ w).alloc (Xa _) _))).mono (fun j hj=>by rcases hj with hj|hj|hj;(· exact Or.inl (Or.inl hj));(· rw[hj];exact Or.inr (Xa _));exact Or.inl (Or.inr hj)),(hp.low.chg (Chg.of ((Xb _ w).alloc (Xa _) _))).mono (fun j hj=>by rcases hj with hj|hj;(· rw[hj];exact Or.inr (Xa _));exact Or.inl hj),Chg.of ((Xb _ w).alloc (Xa _) _)⟩;obtain⟨A,cc,rfl,hc1,hc2⟩:=hp.form;unfold maxLen at hc2;obtain⟨F,hF⟩:∃F:Nat→Bch,F=fun j=>Uax b (ps.take j):=⟨_,rfl⟩
 have HF00:Hid (F 0=b):=Qd (by rw[hF];rfl);have HFE:Hid (F ps.length=Uax b ps):=Qd (by rw[hF];simp);have HFN:Hid (∀j p,ps[j]? = some p→F (j+1)=Uh2 (F j) p):=Qd (fun j p hj=>by rw[hF];exact U1f b ps hj);have HFS:Hid (∀j,j≤ps.length→Ya (n+(j:Int)) (F j)):=Qd (fun j hj=>by rw[hF];have:=hs.plays (ps.take j);rwa [List.length_take,Nat.min_eq_left hj] at this);have HP:Hid (∀p,p∈ps→I64 p):=Qd hp.2.2;have HXW:=Qd hX;rw[show nv b R = .agg (ncs b R) from rfl];rw[←HFE.out];clear h hs hX hg hp hF HFE;obtain⟨m,hm⟩:∃m,ps.length=m:=⟨_,rfl⟩;rw[hm] at hn hc1 HFS ⊢;have HM:=Qd hm;clear hm;have P1:Hid (∃R1,PyR X w gl (.slice A ps.length cc) ps (F 0) R1 (w.alloc (.cells (ncs b R) 55))):=Qd ⟨R,by rw[HF00.out];exact P0.out⟩;clear P0 HF00;rw[HM.out] at P1;generalize ncs b R=cs at *;go_enter func17,ntmps17;go_upto_region 1 with fail
 refine Uq fun W0 hW0=>?_
 rw[←hW0] at P1;clear hW0;go_step3;go_wp2_with fail;go_step3;go_wp2_with fail;go_loopw [11] (fun i wr=>∃(j:Nat) (R1:Rep),j≤m∧i = .int .i64 (j:Int)∧Hid (PyR X w gl (.slice A m cc) ps (F j) R1 wr)) (fun i _=>m-(intOf i).toNat)
 case atStart=>obtain⟨R1,h1⟩:=P1.out;exact⟨0,R1,Nat.zero_le _,rfl,Qd h1⟩
 case round =>
  obtain⟨j,R1,hj,rfl,HR⟩:=hrel;clear P1;have HSJ:=Qd (HFS.out j hj);by_cases hlt:j<m
  ·obtain⟨p,hpj⟩:∃p,ps[j]? = some p:=⟨ps[j]'(by rw[HM.out];exact hlt),Xj _⟩;obtain⟨bp,op,rfl,hbp,xp⟩:=HR.out.p.at_ hpj;have HNX:=Qd (HFN.out j p hpj);have hji:(j:Int)<(m:Int):=by omega
   have hj0:(0:Int)≤(j:Int):=by omega
   have hpI:I64 p:=HP.out p (List.mem_of_getElem? hpj);obtain⟨q1,q2,q3⟩:=U6n p;have hq7:=Upb p;have HPK:Hid (Uh2 (F j) p=if Ue8 p<4 then (if Ump (F j) (Ue8 p) then F j else pubN (F j) (Ue8 p)) else if Ue8 p=4 then fuseN (F j) else Udb (F j) (Ue8 p-5)):=Qd rfl;clear hpj;unfold I64 at hpI;generalize Ue8 p=k at *;generalize hr:p.tmod 7=r at *;have hw1:IntKind.i64.wrap r=r:=by rw[Xf];omega
   have hw2:IntKind.i64.wrap (r+7)=r+7:=by rw[Xf];omega
   have hw3:IntKind.i64.wrap (k:Int)=(k:Int):=by rw[Xf];omega
   have HJN:Hid (n+(j:Int)≤1000000):=Qd (by omega);have HS1:Hid (Ya (n+((j+1:Nat):Int)) (F (j+1))):=Qd (HFS.out (j+1) (by omega));have HL:=Qd (HR.out.drew.lt HXW.out);go_upto_region 6 with fail
   by_cases h4:k<4
   ·obtain⟨T,eT,hT⟩:=HR.out.x.pub k h4;have hrl:k<R1.pub.length:=by rw[HR.out.x.pl];exact h4
    have XD:Hid (∀W,Box W w.heap.size 55 (ncs (F j) R1)→W.cell? ⟨w.heap.size,26+k*36+34,none⟩=some (.bool T.t.done)):=Qd (fun W H=>by
     rw[Uiu hrl] at H;obtain⟨cs,e,_,_,h34,_⟩:=hT.task.parts;injection e with e
     rw[←e] at h34
     exact Ubt H (o:=26+k*36) (by rw[Uhy HR.out.x h4];omega) 34 _ (by simpa using h34))
    have XB:Hid (∀W,Box W w.heap.size 55 (ncs (F j) R1)→W.cell? ⟨w.heap.size,170+k,none⟩=some (.int .i64 ((F j).begun.getD k 0))):=Qd (fun W H=>Z4 (S:=Ym (F j) R1) H (HR.out.x.lens HSJ.out) 5 k (o:=170) (by decide) rfl (Ue6 (by rw[HSJ.out.begun.len];exact h4)));have XL0:Hid (∀W,Box W w.heap.size 55 (ncs (F j) R1)→W.cell? ⟨w.heap.size,21+k,none⟩=some (R1.lists.getD k (.bool false))):=Qd (fun W H=>Z4 (S:=Ym (F j) R1) H (HR.out.x.lens HSJ.out) 2 k (o:=21) (by decide) rfl (by show R1.lists[k]? = _;rw[List.getD_eq_getElem?_getD,Xj (by rw[HR.out.x.ll];exact h4)];rfl));obtain⟨es,hes⟩:=HR.out.x.lists k h4;obtain⟨A2,c2,el,-,-⟩:=hes.form;have XL:=XL0;rw[el] at XL;have HDI:Hid (Ump (F j) k=(T.t.done&&decide ((F j).begun.getD k 0=(((F j).lists.getD k []).length:Int)))):=Qd (by unfold Ump;rw[Ugp eT]);have hk0:(0:Int)≤(k:Int):=by omega
    have hk4:(k:Int)<4:=by omega
    clear hes el XL0 hT eT hrl;generalize ((F j).lists.getD k []).length=ml at *;generalize (F j).begun.getD k 0=bg at *;generalize T.t.done=dT at *;cases dT
    ·have HID:Hid (Ump (F j) k=false):=Qd (by rw[HDI.out];rfl);refine Xm (S:=fun w'=>Box w' w.heap.size 55 (ncs (F j) R1)) (by kernel_rfl) HR.out.g.drew (fun hHeld=>?_);refine Qn 0 (.int .i64 (k:Int)) ?_;refine Qn 1 (.bool true) ?_;refine Qn 2 (.bool true) ?_;refine Qn 3 (.int .i64 (k:Int)) ?_;refine Qn 4 (.pointer (some ⟨w.heap.size,26,none⟩)) ?_;refine Qn 5 (.pointer (some ⟨w.heap.size,26+k*36,none⟩)) ?_;refine Qn 6 (.pointer (some ⟨w.heap.size,26+k*36+34,none⟩)) ?_;refine Qe 7 (.bool false) (fun w hW=>?_) ?_
     ·have x1:=XD.out _ hW;go_simp
     simp only[Qz];refine Qn 8 (.bool false) ?_;refine Qn 9 (.bool false) ?_;refine Qm 10 ?_;refine Qm 11 ?_;refine Qm 12 ?_;refine Qm 13 ?_;refine Qm 14 ?_;refine Qm 15 ?_;refine Qm 16 ?_;refine Qm 17 ?_;refine Qm 18 ?_;refine Qm 19 ?_;refine Qn 20 (.bool false) ?_;refine Qn 21 (.bool false) ?_;refine Xl (by kernel_rfl) ?_ _;clear hHeld;have HEQ:Hid (F (j+1)=pubN (F j) k):=Qd (by rw[HNX.out,HPK.out,if_pos h4,HID.out];rfl);go_wp2_with fail;refine(Uh0 HR.out.drew.g HR.out.drew.x HSJ.out HJN.out HL.out (Or.inr (Or.inl rfl)) h4 (Uti HSJ.out h4 HID.out)).mono ?_;rintro e w1 ⟨R2,rfl,h1,h2,h3⟩;rw[←HEQ.out] at h1 h2;have KSH:=Qd (PyR.show HR.out.drew HSJ.out HS1.out hgl h1 h2 h3);have HB1:=Qd h1;have SB1:=Qd (Uaw h2 HS1.out);clear h1 h2 h3 HR;go_wp2_with (with_reducible first|refine Qg 55 ?_);refine Uo.go w.heap.size rfl HB1.out underlying55 rfl SB1.out ?_;go_wp2_with fail;refine KSH.out.mono ?_;rintro e w2 ⟨rfl,hP⟩;have P2:Hid (PyR X w gl (.slice (some ⟨bp,op,none⟩) m cc) ps (F (j+1)) R2 w2):=Qd hP;clear hP KSH HB1 SB1;go_wp2_with fail;go_roundw
     case rel=>exact⟨j+1,R2,by omega,by go_num,P2⟩
     case measure=>simp[intOf];omega
    ·by_cases he:bg=(ml:Int);rotate_right
     focus
      have hbb:(bg==(ml:Int))=false:=by simpa using he
      have HID:Hid (Ump (F j) k=false):=Qd (by rw[HDI.out,Xh he];rfl)
     rotate_right
     focus
      have hbb:(bg==(ml:Int))=true:=by simpa using he
      have HID:Hid (Ump (F j) k=true):=Qd (by rw[HDI.out,Xi he];rfl);have HEQ:Hid (F (j+1)=F j):=Qd (by rw[HNX.out,HPK.out,if_pos h4,HID.out];rfl)
     all_goals
      clear he;refine Xm (S:=fun w'=>Box w' w.heap.size 55 (ncs (F j) R1)) (by kernel_rfl) HR.out.g.drew (fun hHeld=>?_);refine Qn 0 (.int .i64 (k:Int)) ?_;refine Qn 1 (.bool true) ?_;refine Qn 2 (.bool true) ?_;refine Qn 3 (.int .i64 (k:Int)) ?_;refine Qn 4 (.pointer (some ⟨w.heap.size,26,none⟩)) ?_;refine Qn 5 (.pointer (some ⟨w.heap.size,26+k*36,none⟩)) ?_;refine Qn 6 (.pointer (some ⟨w.heap.size,26+k*36+34,none⟩)) ?_;refine Qe 7 (.bool true) (fun w hW=>?_) ?_
      ·have x1:=XD.out _ hW;go_simp
      simp only[Qz];refine Qn 8 (.bool true) ?_;refine Qn 9 (.bool true) ?_;refine Qn 10 (.int .i64 (k:Int)) ?_;refine Qn 11 (.pointer (some ⟨w.heap.size,170,none⟩)) ?_;refine Qn 12 (.pointer (some ⟨w.heap.size,170+k,none⟩)) ?_;refine Qe 13 (.int .i64 bg) (fun w hW=>?_) ?_
      ·have x1:=XB.out _ hW;go_simp
      simp only[Qz];refine Qn 14 (.int .i64 (k:Int)) ?_;refine Qn 15 (.pointer (some ⟨w.heap.size,21,none⟩)) ?_;refine Qn 16 (.pointer (some ⟨w.heap.size,21+k,none⟩)) ?_;refine Qe 17 (.slice A2 ml c2) (fun w hW=>?_) ?_
      ·have x1:=XL.out _ hW;go_simp
      simp only[Qz];refine Qn 18 (.int .i64 (ml:Int)) ?_
     rotate_right
     focus
      refine Qn 19 (.bool false) ?_;refine Qn 20 (.bool false) ?_;refine Qn 21 (.bool false) ?_;refine Xl (by kernel_rfl) ?_ _;clear hHeld;have HEQ:Hid (F (j+1)=pubN (F j) k):=Qd (by rw[HNX.out,HPK.out,if_pos h4,HID.out];rfl);go_wp2_with fail;refine(Uh0 HR.out.drew.g HR.out.drew.x HSJ.out HJN.out HL.out (Or.inr (Or.inl rfl)) h4 (Uti HSJ.out h4 HID.out)).mono ?_;rintro e w1 ⟨R2,rfl,h1,h2,h3⟩;rw[←HEQ.out] at h1 h2;have KSH:=Qd (PyR.show HR.out.drew HSJ.out HS1.out hgl h1 h2 h3);have HB1:=Qd h1;have SB1:=Qd (Uaw h2 HS1.out);clear h1 h2 h3 HR
     rotate_right
     focus
      refine Qn 19 (.bool true) ?_;refine Qn 20 (.bool true) ?_;refine Qn 21 (.bool true) ?_;refine Xl (by kernel_rfl) ?_ _;clear hHeld;have KSH:Hid (Calls prog 18 #[.agg (ncs (F j) R1),.pointer (some ⟨gl,0,none⟩)] wr.drew (fun e w'=>e = .returned (.tuple #[])∧PyR X w gl (.slice (some ⟨bp,op,none⟩) m cc) ps (F (j+1)) R1 w')):=Qd (by rw[HEQ.out];exact PyR.show HR.out.drew HSJ.out HSJ.out hgl HR.out.drew.g HR.out.drew.x (Chg.refl _ _));have HB1:=Qd HR.out.drew.g;have SB1:=Qd (Uaw HR.out.drew.x HSJ.out);clear HR
     all_goals
      go_wp2_with (with_reducible first|refine Qg 55 ?_);refine Uo.go w.heap.size rfl HB1.out underlying55 rfl SB1.out ?_;go_wp2_with fail;refine KSH.out.mono ?_;rintro e w2 ⟨rfl,hP⟩
     ·have P2:Hid (PyR X w gl (.slice (some ⟨bp,op,none⟩) m cc) ps (F (j+1)) R1 w2):=Qd hP;clear hP KSH HB1 SB1;go_wp2_with fail;go_roundw
      case rel=>exact⟨j+1,R1,by omega,by go_num,P2⟩
      case measure=>simp[intOf];omega
     ·have P2:Hid (PyR X w gl (.slice (some ⟨bp,op,none⟩) m cc) ps (F (j+1)) R2 w2):=Qd hP;clear hP KSH HB1 SB1;go_wp2_with fail;go_roundw
      case rel=>exact⟨j+1,R2,by omega,by go_num,P2⟩
      case measure=>simp[intOf];omega
   ·have hk4:¬(k:Int)<4:=by omega
    have hk0:(0:Int)≤(k:Int):=by omega
    refine Xm (S:=fun w'=>Box w' w.heap.size 55 (ncs (F j) R1)) (by kernel_rfl) HR.out.g.drew (fun hHeld=>?_);refine Qn 0 (.int .i64 (k:Int)) ?_;refine Qn 1 (.bool false) ?_;refine Qn 2 (.bool false) ?_;refine Qm 3 ?_;refine Qm 4 ?_;refine Qm 5 ?_;refine Qm 6 ?_;refine Qm 7 ?_;refine Qn 8 (.bool false) ?_;refine Qn 9 (.bool false) ?_;refine Qm 10 ?_;refine Qm 11 ?_;refine Qm 12 ?_;refine Qm 13 ?_;refine Qm 14 ?_;refine Qm 15 ?_;refine Qm 16 ?_;refine Qm 17 ?_;refine Qm 18 ?_;refine Qm 19 ?_;refine Qn 20 (.bool false) ?_;refine Qn 21 (.bool false) ?_;refine Xl (by kernel_rfl) ?_ _;clear hHeld;by_cases h5:k=4;rotate_right
    focus
     have h5b:((k:Int)==4)=false:=by simp;omega
     have hs1:IntKind.i64.wrap ((k:Int)-4)=(k:Int)-4:=by rw[Xf];omega
     have hs2:IntKind.i64.wrap ((k:Int)-4-1)=(k:Int)-4-1:=by rw[Xf];omega
     have hs3:(k:Int)-4-1=((k-5:Nat):Int):=by omega
     have HEQ:Hid (F (j+1)=Udb (F j) (k-5)):=Qd (by rw[HNX.out,HPK.out,if_neg h4,if_neg h5]);go_wp2_with fail;refine(Uw1 HR.out.drew.g HR.out.drew.x HSJ.out HL.out (Or.inr (Or.inl rfl)) (r:=k-5) (by omega)).mono ?_
    rotate_right
    focus
     subst h5;have HEQ:Hid (F (j+1)=fuseN (F j)):=Qd (by rw[HNX.out,HPK.out,if_neg h4,if_pos rfl]);go_wp2_with fail;refine(Uxb HR.out.drew.g HR.out.drew.x HSJ.out HJN.out HL.out (Or.inr (Or.inl rfl)) (U4q HSJ.out)).mono ?_
    all_goals
     rintro e w1 ⟨R2,rfl,h1,h2,h3⟩;rw[←HEQ.out] at h1 h2;have KSH:=Qd (PyR.show HR.out.drew HSJ.out HS1.out hgl h1 h2 h3);have HB1:=Qd h1;have SB1:=Qd (Uaw h2 HS1.out);clear h1 h2 h3 HR;go_wp2_with (with_reducible first|refine Qg 55 ?_);refine Uo.go w.heap.size rfl HB1.out underlying55 rfl SB1.out ?_;go_wp2_with fail;refine KSH.out.mono ?_;rintro e w2 ⟨rfl,hP⟩;have P2:Hid (PyR X w gl (.slice (some ⟨bp,op,none⟩) m cc) ps (F (j+1)) R2 w2):=Qd hP;clear hP KSH HB1 SB1;go_wp2_with fail;go_roundw
     case rel=>exact⟨j+1,R2,by omega,by go_num,P2⟩
     case measure=>simp[intOf];omega
  ·obtain rfl:j=m:=by omega
   have hge:¬(j:Int)<(j:Int):=by omega
   have HF9:Hid (Box wr gl 55 (ncs (F j) R1)∧BnX X wr R1 (F j)∧Chg (fun j=>j=gl) w wr):=Qd ⟨HR.out.l,HR.out.x.mono (fun _ h=>Or.inl h),HR.out.c⟩;clear HR HSJ;go_wp2_with fail;exact bodyPost_end (results_none rfl _ _ _) rfl ⟨rfl,R1,HF9.out⟩
structure RuR (w:World) (lv ccs:List Value) (cs0:Array Value) (W:World):Prop where
 l:Box W w.heap.size 23 lv.toArray
 c:Box W (w.heap.size+1) 27 ccs.toArray
 r:Box W (w.heap.size+1+1) 55 cs0
 below:Below w.heap.size w W
theorem RuR.kept {w W W':World}{lv ccs:List Value}{cs0:Array Value}(H:RuR w lv ccs cs0 W)(hb:Below W.heap.size W W'):RuR w lv ccs cs0 W':=⟨H.l.kept hb,H.c.kept hb,H.r.kept hb,Ua H.below hb H.below.size⟩
theorem RuR.far {w W W':World}{lv ccs:List Value}{cs0:Array Value}{gl:Nat}(H:RuR w lv ccs cs0 W)(hc:Chg (fun j=>j=gl) W W')(hg:w.heap.size+1+1<gl):RuR w lv ccs cs0 W' :=
 ⟨H.l.chg hc (by omega),H.c.chg hc (by omega),H.r.chg hc (by omega),⟨hc.os.trans H.below.os,hc.tape.trans H.below.tape,hc.output.trans H.below.output,Xd H.below.size hc.size,fun k hk=>(hc.block k (Xe hk H.below.size) (by omega)).trans (H.below.block k hk)⟩⟩
theorem Urg {X:Nat→Prop}{w:World}{lv:List Value}{ls:List (List (List Int))}(c:Uag)(lag:Int){v:Value}{ps:List Int}(h4:lv.length=4)(hl4:ls.length=4)(hls:∀k,k<4→∃es,WsX X w (lv.getD k (.bool false)) es (ls.getD k []))(hf:∀k,k<4→(ls.getD k []).length≤1000)(hX:∀j,X j→j<w.heap.size)(hp:PkX (fun _=>False) w v ps)(hn:ps.length≤1000000) :
  Calls prog 7 #[.agg lv.toArray,Ucf c,.int .i64 lag,v] w (fun e w'=>∃R,e = .returned (nv (Uax (Y8 ls c lag) ps) R)∧BnX X w' R (Uax (Y8 ls c lag) ps)∧Below w.heap.size w w'):=by
 have hs0:=Uc4 ls hl4 c lag;have hsE:=hs0.plays ps
 have KF:Hid (∀W,Below w.heap.size w W→Calls prog 16 #[.agg lv.toArray,.agg c.list.toArray,.int .i64 lag] W (fun e w'=>∃R,e = .returned (nv (Y8 ls c lag) R)∧BnX (fun j=>X j∨j=w.heap.size+1+1) w' R (Y8 ls c lag)∧Below W.heap.size W w')∨W.heap.size≤w.heap.size+1+1):=Qd (fun W hb=>by
  by_cases hlt:w.heap.size+1+1<W.heap.size
  ·exact Or.inl (Utm (X:=fun j=>X j∨j=w.heap.size+1+1) c lag h4 hl4 (fun k hk=>by obtain⟨es,he⟩:=hls k hk;exact⟨es,(he.low.chg (Chg.of hb)).mono (fun j hj=>by rcases hj with hj|hj;(· exact Or.inl hj);rw[hj];exact Or.inr (by omega))⟩) hf (fun j hj=>by rcases hj with hj|hj;(· exact Xe (hX j hj) hb.size);rw[hj];exact hlt))
  ·exact Or.inr (by omega))
 have KP:Hid (∀(W:World) (gl:Nat) (R:Rep),BnX (fun j=>(X j∨j=w.heap.size+1+1)∨j=gl) W R (Y8 ls c lag)→(∀j,X j→j<W.heap.size)→w.heap.size+1+1<W.heap.size→Box W gl 55 (ncs (Y8 ls c lag) R)→PkX (fun j=>j=gl) W v ps→Calls prog 17 #[.agg (ncs (Y8 ls c lag) R),v,.func (.func 18) #[] #[.pointer (some ⟨gl,0,none⟩)]] W (fun e w'=>e = .returned (.tuple #[])∧∃R',Box w' gl 55 (ncs (Uax (Y8 ls c lag) ps) R')∧BnX (fun j=>X j∨j=w.heap.size+1+1) w' R' (Uax (Y8 ls c lag) ps)∧Chg (fun j=>j=gl) W w')):=Qd (fun W gl R h1 h2 h3 h4 h5=>Uxi h1 hs0 (by omega) (fun j hj=>by rcases hj with hj|hj;(· exact h2 j hj);rw[hj];exact h3) h4 h5);have HS0:=Qd hs0;have HSE:=Qd hsE;have HPK:=Qd hp;have HXW:=Qd hX;have S23:Hid ((prog.info? 23).map (·.size)=some lv.toArray.size):=Qd (by rw[List.size_toArray,h4];kernel_rfl);have S27:Hid ((prog.info? 27).map (·.size)=some c.list.toArray.size):=Qd Ua4;clear hs0 hsE h4 hl4 hls hf hX hp;dsimp only[Ucf,Uag.cells,nv] at *;generalize Y8 ls c lag=b0 at *;generalize Uax b0 ps=be at *;go_enter func7,ntmps7;go_upto_region 1 with fail
 refine Uq fun W0 hW0=>?_
 have D0:∃cs0:List Value,cs0.length=345∧RuR w lv c.list cs0.toArray W0:=by
  rw[hW0];refine⟨(ncs { b0N ⟨⟨⟨0,0,0⟩,0,0⟩,⟨⟨0,0,0⟩,0,0⟩,⟨⟨0,0,0⟩,0,0⟩,⟨⟨0,0,0⟩,0,0⟩⟩ 0 with x:=Uae } (R0N (.slice none 0 0))).toList,by rfl,⟨((Box.new _ _ _).alloc _).alloc _,(Box.at_ (by simp) _ _).alloc _,Box.at_ (by simp) _ _,(((Xb _ w).alloc (Xa _) _).alloc (by simp) _).alloc (by simp;omega) _⟩⟩
 obtain⟨cs0,hz0,d0⟩:=D0;have D1:=Qd d0;have HZ0:=Qd hz0;clear hW0 hz0 d0
 have KF1:Hid (Calls prog 16 #[.agg lv.toArray,.agg c.list.toArray,.int .i64 lag] W0 (fun e w'=>∃R,e = .returned (.agg (ncs b0 R))∧BnX (fun j=>X j∨j=w.heap.size+1+1) w' R b0∧Below W0.heap.size W0 w')):=Qd (by
  rcases KF.out W0 D1.out.below with h|h
  ·exact h
  ·exact absurd D1.out.r.lt (by omega))
 clear KF;go_wp2_with (with_reducible first|refine Qg 55 ?_|refine Qh 55 ?_|refine Qg 23 ?_|refine Qg 27 ?_);refine Uo.go w.heap.size rfl D1.out.l underlying23 rfl S23.out ?_;go_wp2_with (with_reducible first|refine Qg 55 ?_|refine Qh 55 ?_|refine Qg 23 ?_|refine Qg 27 ?_);refine Uo.go (w.heap.size+1) rfl D1.out.c underlying27 rfl S27.out ?_;go_wp2_with fail;refine KF1.out.mono ?_;rintro e w1 ⟨R,rfl,hx,hb⟩;have D2:=Qd (D1.out.kept hb);have HX1:=Qd hx;have SN:Hid ((prog.info? 55).map (·.size)=some (ncs b0 R).size∧345=(ncs b0 R).size∧(ncs b0 R).all (·.oneCell')=true):=Qd ⟨Uaw hx HS0.out,(Z5 (hx.lens HS0.out)).symm,Ugq hx⟩;clear hx hb D1 KF1;go_wp2_with (with_reducible first|refine Qg 55 ?_|refine Qh 55 ?_|refine Qg 23 ?_|refine Qg 27 ?_);refine Uf.go w1.heap.size rfl rfl (Box.new _ _ _) SN.out.1 SN.out.2.1 SN.out.2.2 ?_;go_upto_region 2 with fail
 refine Uq fun W3 hW3=>?_
 have hb3:Below w1.heap.size w1 W3:=by rw[hW3];exact Uc ((Xb _ w1).alloc (Xa _) _) (Xa _) _
 have B3:Hid (Box W3 w1.heap.size 55 (ncs b0 R)):=Qd (by rw[hW3];exact(Box.new _ _ _).row _);have D3:=Qd (D2.out.kept hb3);have KP1:=Qd (KP.out W3 w1.heap.size R ((HX1.out.low.chg (Chg.of hb3)).mono (fun j hj=>by rcases hj with hj|hj;(· exact Or.inl hj);rw[hj];exact Or.inr (Xa _))) (fun j hj=>Xe (HXW.out j hj) D3.out.below.size) D3.out.r.lt B3.out ((HPK.out.low.chg (Chg.of D3.out.below)).mono (fun j hj=>by rw[hj];exact Or.inr D2.out.below.size)));have HGL:Hid (w.heap.size+1+1<w1.heap.size):=Qd D2.out.r.lt;clear hW3 hb3 D2 HX1 KP;generalize w1.heap.size=gl at *;go_wp2_with (with_reducible first|refine Qg 55 ?_|refine Qh 55 ?_|refine Qg 23 ?_|refine Qg 27 ?_);refine Uo.go gl rfl B3.out underlying55 rfl SN.out.1 ?_;go_wp2_with fail;refine KP1.out.mono ?_;rintro e w4 ⟨rfl,R',hB,hx,hc⟩;have D4:=Qd (D3.out.far hc HGL.out);have B4:=Qd hB;have HX4:=Qd hx;have SE:Hid ((prog.info? 55).map (·.size)=some (ncs be R').size∧cs0.toArray.size=(ncs be R').size∧(ncs be R').all (·.oneCell')=true):=Qd ⟨Uaw hx HSE.out,by rw[List.size_toArray,HZ0.out];exact(Z5 (hx.lens HSE.out)).symm,Ugq hx⟩;clear hB hx hc D3 B3 KP1 SN;go_wp2_with (with_reducible first|refine Qg 55 ?_|refine Qh 55 ?_|refine Qg 23 ?_|refine Qg 27 ?_);refine Uo.go gl rfl B4.out underlying55 rfl SE.out.1 ?_;go_wp2_with (with_reducible first|refine Qg 55 ?_|refine Qh 55 ?_|refine Qg 23 ?_|refine Qg 27 ?_);refine Uf.go (w.heap.size+1+1) rfl rfl D4.out.r SE.out.1 SE.out.2.1 SE.out.2.2 ?_;go_wp2_with fail;exact Xk (results_cell_row results7 _ _ (w.heap.size+1+1) 55 _ (0,0) _ rfl (D4.out.r.row _) underlying55 rfl SE.out.1) rfl ⟨_,rfl,(HX4.out.chg (Chg.setRow (Or.inr rfl) _)).mono (fun _ h=>Or.inl h),Uc D4.out.below (by omega) _⟩
def Uak:Uag:=⟨⟨⟨0,0,0⟩,4294967296,4503599627370496⟩,⟨⟨0,0,0⟩,4294967296,4503599627370496⟩,⟨⟨0,0,0⟩,4294967296,4503599627370496⟩,⟨⟨0,0,0⟩,4294967296,4503599627370496⟩⟩
def Uto:Smp:=⟨3,2,⟨4294967296,4294967296,4294967296⟩⟩
def lsA:List (List (List Int)):=[[],[],[Yk Uto],[]]
def psA:List Int:=List.replicate 8 2++List.replicate 39 4++List.replicate 28 5
def Urh:Bch:=Uax (Y8 lsA Uak 0) psA
def U3x:Brd:=Uo5 Uak Ujj [⟨false,2,0,.bool false,Yk Uto⟩,⟨true,0,3,.bool false,[]⟩]
theorem U1j:∀w,(Instr.build 26 #[(1,.int .i64 4294967296),(2,.int .i64 4503599627370496)]).run prog w = .ok (.agg Uak.c0.list.toArray) w:=fun w=>by kernel_rfl
theorem Uxk:∀w,(Instr.build 27 #[(0,.agg Uak.c0.list.toArray),(1,.agg Uak.c0.list.toArray),(2,.agg Uak.c0.list.toArray),(3,.agg Uak.c0.list.toArray)]).run prog w = .ok (.agg Uak.list.toArray) w:=fun w=>by kernel_rfl
theorem Uxl (w:World):Calls prog 15 #[] w (Ub (.agg Uak.list.toArray) w):=by
 have S26:Hid ((prog.info? 26).map (·.size)=some Uak.c0.list.toArray.size∧Uak.c0.list.toArray.all (·.oneCell')=true):=Qd ⟨by kernel_rfl,by kernel_rfl⟩;have S27:Hid ((prog.info? 27).map (·.size)=some Uak.list.toArray.size∧Uak.list.toArray.all (·.oneCell')=true):=Qd ⟨by kernel_rfl,by kernel_rfl⟩;have HB1:=Qd U1j;have HB2:=Qd Uxk;obtain⟨c1,hc1⟩:∃c,Uak.c0.list.toArray=c:=⟨_,rfl⟩;obtain⟨c2,hc2⟩:∃c,Uak.list.toArray=c:=⟨_,rfl⟩;have Z1:Hid (c1.size=5):=Qd (by rw[←hc1];rfl);have Z2:Hid (c2.size=20):=Qd (by rw[←hc2];rfl);rw[hc1] at S26 HB1 HB2;rw[hc2] at S27 HB2 ⊢;clear hc1 hc2;go_enter func15,ntmps15;go_upto_region 1 with fail
 refine Uq fun W0 hW0=>?_
 have D0:Hid ((∃Z,Box W0 w.heap.size 27 Z∧Z.size=20)∧Below w.heap.size w W0):=Qd (by rw[hW0];exact⟨⟨_,Box.new _ _ _,rfl⟩,(Xb _ w).alloc (Xa _) _⟩);clear hW0;go_wp2_with (with_reducible first|refine Qk 26 ?_|refine Qh 26 ?_);refine Ubm.go _ (by simp only[List.map_toArray,List.map_cons,List.map_nil];exact HB1.out _) ?_;go_wp2_with (with_reducible first|refine Qk 26 ?_|refine Qh 26 ?_);refine Uf.go W0.heap.size rfl rfl (Box.new _ _ _) S26.out.1 (by rw[Z1.out];rfl) S26.out.2 ?_;go_upto_region 2 with fail
 refine Uq fun W1 hW1=>?_
 have D1:Hid (Box W1 W0.heap.size 26 c1∧(∃Z,Box W1 w.heap.size 27 Z∧Z.size=20)∧Below w.heap.size w W1):=Qd (by
  have hb:Below W0.heap.size W0 W1:=by rw[hW1];exact Uc ((Xb _ W0).alloc (Xa _) _) (Xa _) _
  obtain⟨⟨Z,h1,h2⟩,h3⟩:=D0.out
  exact⟨by rw[hW1];exact(Box.new _ _ _).row _,⟨Z,h1.kept hb,h2⟩,Ua h3 hb h3.size⟩)
 clear hW1 D0;generalize W0.heap.size=g1 at *;go_wp2_with (with_reducible first|refine Qg 26 ?_|refine Qk 27 ?_|refine Qh 27 ?_);refine Uo.go g1 rfl D1.out.1 underlying26 rfl S26.out.1 ?_;go_wp2_with (with_reducible first|refine Qg 26 ?_|refine Qk 27 ?_|refine Qh 27 ?_);refine Uo.go g1 rfl D1.out.1 underlying26 rfl S26.out.1 ?_;go_wp2_with (with_reducible first|refine Qg 26 ?_|refine Qk 27 ?_|refine Qh 27 ?_);refine Uo.go g1 rfl D1.out.1 underlying26 rfl S26.out.1 ?_;go_wp2_with (with_reducible first|refine Qg 26 ?_|refine Qk 27 ?_|refine Qh 27 ?_);refine Uo.go g1 rfl D1.out.1 underlying26 rfl S26.out.1 ?_;go_wp2_with (with_reducible first|refine Qg 26 ?_|refine Qk 27 ?_|refine Qh 27 ?_);refine Ubm.go _ (by simp only[List.map_toArray,List.map_cons,List.map_nil];exact HB2.out _) ?_;obtain⟨⟨Z,hz1,hz2⟩,hb⟩:=D1.out.2;have D2:Hid (Box W1 w.heap.size 27 Z∧Z.size=c2.size∧Below w.heap.size w W1):=Qd ⟨hz1,by rw[hz2,Z2.out],hb⟩;clear hz1 hz2 hb D1;go_wp2_with (with_reducible first|refine Qg 26 ?_|refine Qk 27 ?_|refine Qh 27 ?_);refine Uf.go w.heap.size rfl rfl D2.out.1 S27.out.1 D2.out.2.1 S27.out.2 ?_;go_wp2_with fail;exact Xk (results_cell_row results15 _ _ w.heap.size 27 _ (0,0) _ rfl (D2.out.1.row _) underlying27 rfl S27.out.1) rfl ⟨rfl,Uc D2.out.2.2 (Xa _) _⟩
structure U3y (w:World) (v:Value) (xs:List Int) (W:World):Prop where
 own:W.ownsRow w.heap.size 3 1 v xs.length (Ucb xs)
 below:Below w.heap.size w W
theorem U3y.grow {w W W':World}{v v':Value}{xs:List Int}{x:Int}{n m:Nat}(H:U3y w v xs W)(hn:n=xs.length)(hm:m=n+1)(ho:W'.ownsRow w.heap.size 3 1 v' m (Ucb xs++[.int .i64 x]))(hg:(W.alloc (.cells #[.int .i64 x] 3)).grownBy W' v.ownBlock):U3y w v' (xs++[x]) W':=by
 subst hn hm;refine⟨?_,(H.below.alloc H.below.size _).grown hg (by have:=H.below.size;simp;omega) (fun j hj=>(H.own.lt j hj).1)⟩;have e:Ucb (xs++[x])=Ucb xs++[.int .i64 x]:=by simp[Ucb]
 rw[e,List.length_append];exact ho
theorem U3y.pk {w W:World}{v:Value}{xs:List Int}(H:U3y w v xs W)(hI:∀p,p∈xs→I64 p)(X:Nat→Prop)(hX:∀j,X j→j<w.heap.size):PkX X W v xs:=⟨Sl.of_own H.own,Ud0.own H.own hX,hI⟩
def Uri (xs:List Int)(w:World)(e:Ending)(w':World):Prop:=∃v',e = .returned v'∧U3y w v' xs w'
theorem Ufw {w:World}{v:Value}{ps:List Int}(who:Int)(n:Nat)(hn:n≤1000)(hl:ps.length≤100000)(h:PkX (fun _=>False) w v ps) :
  Calls prog 8 #[v,.int .i64 who,.int .i64 (n:Int)] w (Uri (ps++List.replicate n who) w):=by
 obtain⟨i0,hif,hz0,hz1,hz2⟩:=info_parts Uj7;obtain⟨A,c,rfl,hc1,hc2⟩:=h.form;unfold maxLen at hc2;have HS:=Qd h.1;clear h;have H1:Hid (∀u,u∈Ucb ps→u.oneCell'=true):=Qd (Uh1 ps);obtain⟨m,hm⟩:∃m,ps.length=m:=⟨_,rfl⟩;rw[hm] at hl hc1 HS ⊢;have HM:=Qd hm;clear hm;go_enter func8,ntmps8;go_wp2_with (at_builtin;refine Ug _ rfl _ _ 28 rfl w.heap.size 3 i0 _ 1 8 underlying28 hif hz0 hz1 hz2 rfl (by decide) _ _ _ rfl (World.ownsRow_made w #[] 0 (Xa _) (Nat.zero_le _) (by simp)) (.slice A m c) m (Ucb ps) rfl ?qc1 ?qc2 ?qc3 ?qc4 ?qc5 ?_)
 case qc1=>exact HS.out.alloc _
 case qc2=>exact H1.out
 case qc3=>simp only[maxLen];omega
 case qc4=>omega
 case qc5=>simp
 intro v1 w1 hown hgrow _;have L0:Hid (U3y w v1 ps w1):=Qd ⟨by rw[HM.out];simpa using hown,((Xb _ w).alloc (Xa _) _).grown hgrow (by simp) (by intro k hk;simp[Value.ownBlock] at hk;omega)⟩;clear hown hgrow HS H1;go_wp2_with fail;go_loopw [8,7] (fun i q wr=>∃(k:Nat) (v2:Value),k≤n∧i = .int .i64 (k:Int)∧v2=q∧Hid (U3y w v2 (ps++List.replicate k who) wr)) (fun i _ _=>n-(intOf i).toNat)
 case atStart=>exact⟨0,v1,Nat.zero_le _,rfl,rfl,Qd (by simpa using L0.out)⟩
 case round =>
  obtain⟨k,v2,hk,rfl,rfl,HR⟩:=hrel;clear L0;by_cases hlt:k<n
  ·have hki:(k:Int)<(n:Int):=by omega
   have HL:Hid ((ps++List.replicate k who).length=m+k):=Qd (by rw[List.length_append,List.length_replicate,HM.out]);have HNE:Hid (ps++List.replicate (k+1) who=ps++List.replicate k who++[who]):=Qd (by rw[List.replicate_succ',List.append_assoc]);generalize ps++List.replicate k who=xs at *;have HO:Hid (wr.ownsRow w.heap.size 3 1 v2 (m+k) (Ucb xs)):=Qd (by have:=HR.out.own;rwa [HL.out] at this);go_wp2_with (at_builtin;refine Ug _ rfl _ _ 28 rfl w.heap.size 3 i0 _ 1 8 underlying28 hif hz0 hz1 hz2 rfl (by decide) _ _ _ rfl (HO.out.alloc _) _ 1 [.int .i64 who] rfl (Sl.of_own (Yt _ _ 1 #[.int .i64 who] 1 rfl (by decide))) (by intro u hu;simp at hu;subst hu;rfl) (by simp only[maxLen];omega) (by omega) (by have:=HR.out.below.size;simp;omega) ?_);intro v3 w2 hown hgrow _;have L2:Hid (U3y w v3 (ps++List.replicate (k+1) who) w2):=Qd (by rw[HNE.out];exact HR.out.grow HL.out.symm rfl hown hgrow);clear hown hgrow HO HR;go_wp2_with fail;go_roundw
   case rel=>exact⟨k+1,v3,by omega,by go_num,rfl,L2⟩
   case measure=>simp[intOf];omega
  ·obtain rfl:k=n:=by omega
   go_wp2_with fail;go_ret;exact⟨_,rfl,HR.out⟩
def U1k (ls:List (List (List Int)))(w:World)(e:Ending)(w':World):Prop:=∃b,e = .returned (.bool b)∧(b=true→∀k,k<4→(ls.getD k []).length≤60)∧Below w.heap.size w w'
theorem U6p {W:World}{g k:Nat}{lv:List Value}(h:Box W g 23 lv.toArray)(h4:lv.length=4)(hk:k<4):W.cell? ⟨g,k,none⟩=some (lv.getD k (.bool false)):=by
 have:=h.cell k;rw[this,List.getElem?_toArray,List.getD_eq_getElem?_getD,Xj (by rw[h4];exact hk)]
 rfl
theorem U3z {X:Nat→Prop}{w:World}{lv:List Value}{ls:List (List (List Int))}(h4:lv.length=4)(hls:∀k,k<4→∃es,WsX X w (lv.getD k (.bool false)) es (ls.getD k [])) :
  Calls prog 6 #[.agg lv.toArray] w (U1k ls w):=by
 have P0:Hid (Box (w.alloc (.cells lv.toArray 23)) w.heap.size 23 lv.toArray∧Below w.heap.size w (w.alloc (.cells lv.toArray 23))):=Qd ⟨Box.new _ _ _,(Xb _ w).alloc (Xa _) _⟩;have HLV:=Qd hls;have H4:=Qd h4;clear hls h4;go_enter func6,ntmps6;go_upto_region 1 with fail
 refine Uq fun W0 hW0=>?_
 rw[←hW0] at P0;clear hW0;go_wp2_with fail;go_loopw [3] (fun i wr=>∃k:Nat,k≤4∧i = .int .i64 (k:Int)∧Hid ((Box wr w.heap.size 23 lv.toArray∧Below w.heap.size w wr)∧∀j,j<k→(ls.getD j []).length≤60)) (fun i _=>4-(intOf i).toNat)
 case atStart=>exact⟨0,by omega,rfl,Qd ⟨P0.out,fun j hj=>absurd hj (by omega)⟩⟩
 case round =>
  obtain⟨k,hk,rfl,HR⟩:=hrel;clear P0;by_cases hlt:k<4
  ·have hki:(k:Int)<4:=by omega
   have hk0:(0:Int)≤(k:Int):=by omega
   obtain⟨es,hes⟩:=HLV.out k hlt;have HES:=Qd hes;obtain⟨A,c,ev,hc1,hc2⟩:=hes.form;have XL:Hid (∀W,Box W w.heap.size 23 lv.toArray→W.cell? ⟨w.heap.size,k,none⟩=some (.slice A (ls.getD k []).length c)):=Qd (fun W h=>by rw[←ev];exact U6p h H4.out hlt);rw[ev] at HES;clear hes ev;unfold maxLen at hc2;obtain⟨n,hn⟩:∃n,(ls.getD k []).length=n:=⟨_,rfl⟩;rw[hn] at XL HES hc1;have HN:=Qd hn;clear hn;go_wp2_with fail;go_loopw [4] (fun i wr2=>∃j:Nat,j≤n∧i = .int .i64 (j:Int)∧Hid (Box wr2 w.heap.size 23 lv.toArray∧Below w.heap.size w wr2)) (fun i _=>n-(intOf i).toNat)
   case atStart=>exact⟨0,Nat.zero_le _,rfl,Qd HR.out.1⟩
   case round =>
    obtain⟨j,hj,rfl,HP⟩:=hrel;have xl:=XL.out _ HP.out.1;by_cases hjn:j<n
    ·have hji:(j:Int)<(n:Int):=by omega
     have hj0:(0:Int)≤(j:Int):=by omega
     obtain⟨b,off,u,rfl,hb,xu,hw⟩:=(HES.out.below HP.out.2).at_ (k:=j) (by rw[HN.out];exact hjn);obtain⟨A2,c2,rfl,-,-⟩:=hw.1.1.form;generalize ((ls.getD k []).getD j []).length=m at *;clear hw;by_cases hm:(20:Int)<(m:Int)
     ·go_wp2_with fail;go_ret;exact⟨false,rfl,(fun h=>by cases h),HP.out.2⟩
     ·go_wp2_with fail;go_roundw
      case rel=>exact⟨j+1,by omega,by go_num,HP⟩
      case measure=>simp[intOf];omega
    ·obtain rfl:j=n:=by omega
     have hge:¬(j:Int)<(j:Int):=by omega
     by_cases hm:(60:Int)<(j:Int)
     ·go_wp2_with fail;go_ret;exact⟨false,rfl,(fun h=>by cases h),HP.out.2⟩
     ·have HQ:Hid ((Box wr w.heap.size 23 lv.toArray∧Below w.heap.size w wr)∧∀i,i<k+1→(ls.getD i []).length≤60):=Qd ⟨HP.out,fun i hi=>by
       by_cases hik:i=k
       ·rw[hik,HN.out];omega
       ·exact HR.out.2 i (by omega)⟩
      clear HP HR;go_wp2_with fail;go_roundw
      case rel=>exact⟨k+1,by omega,by go_num,HQ⟩
      case measure=>simp[intOf];omega
  ·obtain rfl:k=4:=by omega
   go_wp2_with fail;go_ret;exact⟨true,rfl,fun _=>HR.out.2,HR.out.1.2⟩
end Go.Proofs.YtdaflmjfeoacaaaGreat
