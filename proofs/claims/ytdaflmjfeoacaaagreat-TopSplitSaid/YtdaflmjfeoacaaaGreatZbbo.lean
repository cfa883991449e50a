/- Part of the proof of TopTry, TopSplit: BeC, BeD, BeE, BeF, BeG, BeH. Conditions: none. -/
import Derived.Test.YtdaflmjfeoacaaaGreatZbbn
set_option linter.all false
set_option maxHeartbeats 16000000
set_option maxRecDepth 4000
namespace Go.Proofs.YtdaflmjfeoacaaaGreat
open Tryz
open Go.RowKit Go.Shelf
section
variable (b:Bch) (R:Rep)
def U3d (k:Nat):List Value:=b.cals.list++R.lists++[.int .i64 b.lag]++(R.pub.take k).flatten
def U57:List Value:=Ucb b.begun++Ucb b.tail++Ucb b.head++Ucb b.drops++R.fuse++[.int .i64 b.phase]++[.int .i64 b.top]++Ul b.m R.vs++b.x.list++[.int .i64 b.ver]++R.reads.flatten
def U73 (k:Nat):List Value:=(R.pub.drop (k+1)).flatten++U57 b R
def U3e:List Value:=b.cals.list++R.lists++[.int .i64 b.lag]++R.pub.flatten++Ucb b.begun++Ucb b.tail++Ucb b.head++Ucb b.drops
def U74:List Value:=[.int .i64 b.phase]++[.int .i64 b.top]++Ul b.m R.vs++b.x.list++[.int .i64 b.ver]++R.reads.flatten
def U62 (k:Nat):List Value:=U3e b R++R.fuse++[.int .i64 b.phase]++[.int .i64 b.top]++Ul b.m R.vs++b.x.list++[.int .i64 b.ver]++(R.reads.take k).flatten
def U75 (k:Nat):List Value:=(R.reads.drop (k+1)).flatten
end
section
variable {b:Bch} {R:Rep} {k:Nat}
theorem Ud7 (b:Bch)(R:Rep):ncs b R=(R.mem::(b.cals.list++(R.lists++(.int .i64 b.lag::(R.pub.flatten++(Ucb b.begun++(Ucb b.tail++(Ucb b.head++(Ucb b.drops++(R.fuse++(.int .i64 b.phase :: .int .i64 b.top::(Ul b.m R.vs++(b.x.list++(.int .i64 b.ver::R.reads.flatten)))))))))))))).toArray:=by
 simp[ncs,Ym,List.flatten_cons]
theorem Uiu (hk:k<R.pub.length):ncs b R=((R.mem::U3d b R k)++R.pub.getD k []++U73 b R k).toArray:=by
 rw[Ud7,Uhx R.pub k hk];simp[U3d,U73,U57]
theorem Ugo (hk:k<R.pub.length)(mv:Value)(cl:List Value):ncs b { R with mem:=mv,pub:=R.pub.set k cl }=((mv::U3d b R k)++cl++U73 b R k).toArray:=by
 rw[Ud7];dsimp only;rw[Uj8 R.pub k cl hk];simp[U3d,U73,U57]
theorem Uuu:ncs b R=((R.mem::U3e b R)++R.fuse++U74 b R).toArray:=by
 rw[Ud7];simp[U3e,U74]
theorem Ujl (mv:Value)(cl:List Value):ncs b { R with mem:=mv,fuse:=cl }=((mv::U3e b R)++cl++U74 b R).toArray:=by
 rw[Ud7];simp[U3e,U74]
theorem Uo8 (hk:k<R.reads.length):ncs b R=((R.mem::U62 b R k)++R.reads.getD k []++U75 R k).toArray:=by
 rw[Ud7,Uhx R.reads k hk];simp[U62,U3e,U75]
theorem Ujm (hk:k<R.reads.length)(mv:Value)(cl:List Value):ncs b { R with mem:=mv,reads:=R.reads.set k cl }=((mv::U62 b R k)++cl++U75 R k).toArray:=by
 rw[Ud7];dsimp only;rw[Uj8 R.reads k cl hk];simp[U62,U3e,U75]
end
section
variable {X:Nat→Prop} {w:World} {R:Rep} {b:Bch} {n:Int}
theorem Ul0 {l:List (List Value)}(h:∀k,k<l.length→(l.getD k []).length=36)(k:Nat)(hk:k≤l.length):(l.take k).flatten.length=k*36:=by
 rw[Ufu (n:=36) (fun j hj=>by
  rw[List.length_take] at hj;have:=h j (by omega);rw[List.getD_eq_getElem?_getD,List.getElem?_take_of_lt (by omega),←List.getD_eq_getElem?_getD]
  exact this),List.length_take,Nat.min_eq_left hk]
theorem BnX.pub36 (h:BnX X w R b):∀k,k<R.pub.length→(R.pub.getD k []).length=36:=fun k hk=>by obtain⟨T,_,ht⟩:=h.pub k (by rw[h.pl] at hk;exact hk);exact ht.1
theorem BnX.reads36 (h:BnX X w R b):∀k,k<R.reads.length→(R.reads.getD k []).length=36:=fun k hk=>by obtain⟨T,_,ht⟩:=h.reads k (by rw[h.rl] at hk;exact hk);exact ht.1
theorem Uhy (h:BnX X w R b){k:Nat}(hk:k<4):(U3d b R k).length+1=26+36*k:=by
 have h1:b.cals.list.length=20:=rfl;have h2:=Ul0 h.pub36 k (by rw[h.pl];omega);simp only[U3d,List.length_append,List.length_singleton,h1,h.ll,h2];omega
theorem Ukb (h:BnX X w R b)(hs:Ya n b):(U3e b R).length+1=186:=by
 have h1:b.cals.list.length=20:=rfl;have h2:R.pub.flatten.length=144:=by rw[Ufu h.pub36,h.pl]
 simp only[U3e,Ucb,List.length_append,List.length_singleton,List.length_map,h1,h.ll,h2,hs.begun.len,hs.tail.len,hs.head.len,hs.drops.len]
theorem Ukc (h:BnX X w R b)(hs:Ya n b){k:Nat}(hk:k<2):(U62 b R k).length+1=273+36*k:=by
 have h1:=Ukb h hs;have h2:=Ul0 h.reads36 k (by rw[h.rl];omega);have h3:b.x.list.length=29:=rfl;simp only[U62,List.length_append,List.length_singleton,h.fuse.1,h2,h3,Uu h.q.len h.q.nl];omega
end
def goT (T:FT)(code:List Uw)(ms:List Int):FT×List Int:=U8 (if T.t.done then Ui code else T) ms
def Udb (b:Bch)(r:Nat):Bch:={ b with reads:=b.reads.set r (goT (b.reads.getD r (Ui [])) (Uh9 60 26 2) b.mem).1,mem:=(goT (b.reads.getD r (Ui [])) (Uh9 60 26 2) b.mem).2 }
def Ujn (X:Nat→Prop)(gb:Nat)(b:Bch)(w:World)(e:Ending)(w':World):Prop:=∃R,e = .returned (.tuple #[])∧Box w' gb 55 (ncs b R)∧BnX X w' R b∧Chg (fun j=>j=gb) w w'
theorem TkX.step {X:Nat→Prop}{w:World}{cl cl':List Value}{T T':FT}(h:TkX X w cl T)(hl:cl'.length=36)(hT:∀W,Yz W (.agg cl.toArray) T→Yz W (.agg cl'.toArray) T'):TkX X w cl' T':=by
 obtain⟨_,cv,code,h1,h2,h3⟩:=h;exact⟨hl,cv,code,h1,h2,fun W hW=>hT W (h3 W hW)⟩
theorem TkX.fresh {X:Nat→Prop}{w:World}{cl:List Value}{T:FT}{v:Value}{B:Nat}{code:List Uw}(hl:cl.length=36)(hT:∀W,Ucj W v code→Yz W (.agg cl.toArray) T)(ho:Uc6 w B v code)(hX:∀k,X k→k<B):TkX X w cl T :=
 ⟨hl,v,code,⟨Sl.of_own ho.1,ho.2⟩,Ud0.own ho.1 hX,hT⟩
theorem WdX.own {X:Nat→Prop}{w:World}{B:Nat}{v:Value}{ms:List Int}(h:Own w B v ms)(hX:∀k,X k→k<B):WdX X w v ms:=⟨h.words,Ud0.own h.1 hX⟩
theorem Utf (w:World):Calls prog 66 #[] w (Ub4 (Uh9 60 26 2) w):=by
 have K:=Qd (U47 60 26 2 w);generalize Uh9 60 26 2=code at *;go_enter func66,ntmps66;go_wp2_with fail;refine K.out.mono ?_;rintro e w1 ⟨v,rfl,ho,hb⟩;have F:Hid (Ub4 code w (.returned v) w1):=Qd ⟨v,rfl,ho,hb⟩;clear ho hb;go_wp2_with fail;go_ret;exact F.out
open Tryz
open Go.RowKit Go.Shelf
section
variable {X:Nat→Prop} {gb:Nat} {w w':World} {R:Rep} {b:Bch} {n:Int}
theorem Uo9 (hXg:X gb)(hc:Chg (fun j=>j=gb) w w'):Chg X w w':=hc.mono (fun k _ e=>by rw[e];exact hXg)
theorem Uhz {α:Type}{l:List α}{k j:Nat}{a d:α}(hk:k<l.length):(l.set k a).getD j d=if j=k then a else l.getD j d:=by
 by_cases h:j=k
 ·subst h;rw[if_pos rfl];simp[hk]
 ·rw[if_neg h,List.getD_eq_getElem?_getD,List.getElem?_set_ne (fun e=>h e.symm),←List.getD_eq_getElem?_getD]
theorem BnX.withPub (h:BnX X w R b)(hc:Chg X w w'){k:Nat}(hk:k<4){mv:Value}{ms:List Int}{cl:List Value}{T:FT}(hm:WdX X w' mv ms)(ht:TkX X w' cl T):BnX X w' { R with mem:=mv,pub:=R.pub.set k cl } { b with mem:=ms,pub:=b.pub.set k T }:=by
 have h':=h.chg hc;refine⟨hm,h'.ll,h'.lists,by rw[List.length_set];exact h'.pl,fun j hj=>?_,h'.fuse,h'.q,h'.rl,h'.reads⟩;obtain⟨T0,e0,_⟩:=h'.pub k hk;obtain⟨T1,e1,t1⟩:=h'.pub j hj;have hl:k<b.pub.length:=(List.getElem?_eq_some_iff.1 e0).1;dsimp only;rw[Uhz (by rw[h'.pl];exact hk)];by_cases hjk:j=k
 ·subst hjk;rw[if_pos rfl];exact⟨T,by rw[List.getElem?_set_self hl],ht⟩
 ·rw[if_neg hjk];exact⟨T1,by rw[List.getElem?_set_ne (fun e=>hjk e.symm)];exact e1,t1⟩
theorem BnX.withRead (h:BnX X w R b)(hc:Chg X w w'){k:Nat}(hk:k<2){mv:Value}{ms:List Int}{cl:List Value}{T:FT}(hm:WdX X w' mv ms)(ht:TkX X w' cl T):BnX X w' { R with mem:=mv,reads:=R.reads.set k cl } { b with mem:=ms,reads:=b.reads.set k T }:=by
 have h':=h.chg hc;refine⟨hm,h'.ll,h'.lists,h'.pl,h'.pub,h'.fuse,h'.q,by rw[List.length_set];exact h'.rl,fun j hj=>?_⟩;obtain⟨T0,e0,_⟩:=h'.reads k hk;obtain⟨T1,e1,t1⟩:=h'.reads j hj;have hl:k<b.reads.length:=(List.getElem?_eq_some_iff.1 e0).1;dsimp only;rw[Uhz (by rw[h'.rl];exact hk)];by_cases hjk:j=k
 ·subst hjk;rw[if_pos rfl];exact⟨T,by rw[List.getElem?_set_self hl],ht⟩
 ·rw[if_neg hjk];exact⟨T1,by rw[List.getElem?_set_ne (fun e=>hjk e.symm)];exact e1,t1⟩
theorem BnX.withFuse (h:BnX X w R b)(hc:Chg X w w'){mv:Value}{ms:List Int}{cl:List Value}{T:FT}(hm:WdX X w' mv ms)(ht:TkX X w' cl T):BnX X w' { R with mem:=mv,fuse:=cl } { b with mem:=ms,fuse:=T }:=by
 have h':=h.chg hc;exact⟨hm,h'.ll,h'.lists,h'.pl,h'.pub,ht,h'.q,h'.rl,h'.reads⟩
theorem Ugp {α:Type}{l:List α}{k:Nat}{a d:α}(h:l[k]? = some a):l.getD k d=a:=by rw[List.getD_eq_getElem?_getD,h];rfl
end
def Uq8 (X:Nat→Prop)(gb:Nat)(b:Bch)(d:Bool)(w:World)(e:Ending)(w':World):Prop:=∃R,e = .returned (.bool d)∧Box w' gb 55 (ncs b R)∧BnX X w' R b∧Chg (fun j=>j=gb) w w'
theorem Uw0 {X:Nat→Prop}{gb:Nat}{w:World}{R:Rep}{b:Bch}{n:Int}(hg:Box w gb 55 (ncs b R))(h:BnX X w R b)(hs:Ya n b)(hX:∀j,X j→j<w.heap.size)(hXg:X gb){r:Nat}(hr:r<2) :
  Calls prog 59 #[.pointer (some ⟨gb,0,none⟩),.pointer (some ⟨gb,273+36*r,none⟩),.func (.func 66) #[] #[]] w (Uq8 X gb (Udb b r) (goT (b.reads.getD r (Ui [])) (Uh9 60 26 2) b.mem).1.t.done w):=by
 have hrl:r<R.reads.length:=by rw[h.rl];exact hr
 have hg':=hg;rw[Uo8 hrl] at hg';obtain⟨T,eT,hT⟩:=h.reads r hr;have hB:∀{B k:Nat},w.heap.size≤B→X k→k<B:=fun hB hk=>Xe (hX _ hk) hB
 unfold Udb;rw[Ugp eT];unfold goT;cases hd:T.t.done
 ·rw[if_neg (by simp)];refine(Uo7 hg' (Ukc h hs hr) hT.1 hT.task h.mem.1 hd).mono ?_;rintro e w' ⟨cl',mv1,rfl,h1,h2,h3,⟨B,hBB,hO⟩,hc⟩;have hcX:=Uo9 hXg hc;refine⟨{ R with mem:=mv1,reads:=R.reads.set r cl' },rfl,?_,BnX.withRead h hcX hr (WdX.own hO (fun k hk=>hB hBB hk)) ((hT.chg hcX).step h2 h3),hc⟩;have:=Ujm (b:=b) hrl mv1 cl';rw[←this] at h1;exact h1
 ·rw[if_pos rfl];refine(U0w (code:=Uh9 60 26 2) (ms:=b.mem) (C:=U75 R r) hg' (Ukc h hs hr) hT.1 hT.task hd (h.mem.2.mono (fun k e=>by rw[e];exact hXg)) ?_).mono ?_
  ·refine(Utf w).mono ?_;rintro e w1 ⟨v,rfl,ho,hb⟩;exact⟨v,_,rfl,ho,Xa _,hg'.kept hb,h.mem.1.below hb,Chg.of hb⟩
  ·rintro e w' ⟨cl',mv1,v,B0,rfl,h1,h2,h3,ho,hB0,⟨B,hBB,hO⟩,hc⟩;have hcX:=Uo9 hXg hc;refine⟨{ R with mem:=mv1,reads:=R.reads.set r cl' },rfl,?_,BnX.withRead h hcX hr (WdX.own hO (fun k hk=>hB hBB hk)) (TkX.fresh h2 h3 ho (fun k hk=>hB hB0 hk)),hc⟩;have:=Ujm (b:=b) hrl mv1 cl';rw[←this] at h1;exact h1
theorem Uw1 {X:Nat→Prop}{gb:Nat}{w:World}{R:Rep}{b:Bch}{n:Int}(hg:Box w gb 55 (ncs b R))(h:BnX X w R b)(hs:Ya n b)(hX:∀j,X j→j<w.heap.size)(hXg:X gb){r:Nat}(hr:r<2) :
  Calls prog 38 #[.pointer (some ⟨gb,0,none⟩),.int .i64 (r:Int)] w (Ujn X gb (Udb b r) w):=by
 have K:=Qd (Uw0 hg h hs hX hXg hr);have hr0:(0:Int)≤r:=by omega
 have hr2:(r:Int)<2:=by omega
 clear hg h hs hX hXg;generalize (goT (b.reads.getD r (Ui [])) (Uh9 60 26 2) b.mem).1.t.done=d at *;generalize Udb b r=b' at *;rcases (show r=0∨r=1 by omega) with rfl|rfl
 rotate_right
 focus
  replace K:Hid (Calls _ _ #[_,.pointer (some ⟨gb,309,none⟩),_] w _):=K
 rotate_right
 focus
  replace K:Hid (Calls _ _ #[_,.pointer (some ⟨gb,273,none⟩),_] w _):=K
 all_goals
  go_enter func38,ntmps38;go_wp2_with fail;refine K.out.mono ?_;rintro e w1 ⟨R1,rfl,h1,h2,h3⟩;have F:Hid (Ujn X gb b' w (.returned (.tuple #[])) w1):=Qd ⟨R1,rfl,h1,h2,h3⟩;clear h1 h2 h3;go_wp2_with fail;exact bodyPost_end (results_none rfl _ _ _) rfl F.out
open Tryz
open Go.RowKit Go.Shelf
theorem Ue6 {l:List Int}{k:Nat}(hk:k<l.length):(Ucb l)[k]? = some (.int .i64 (l.getD k 0)):=by
 unfold Ucb;rw[List.getElem?_map,Xj hk,List.getD_eq_getElem?_getD,Xj hk]
 rfl
section
variable {X:Nat→Prop} {gb:Nat} {w:World} {R:Rep} {b:Bch} {n:Int}
theorem U8w (hg:Box w gb 55 (ncs b R))(h:BnX X w R b)(hs:Ya n b):w.cell? ⟨gb,25,none⟩=some (.int .i64 b.lag):=Z4 (S:=Ym b R) hg (h.lens hs) 3 0 (o:=25) (by decide) rfl rfl
theorem Ue7 (hg:Box w gb 55 (ncs b R))(h:BnX X w R b)(hs:Ya n b):w.cell? ⟨gb,222,none⟩=some (.int .i64 b.phase):=Z4 (S:=Ym b R) hg (h.lens hs) 10 0 (o:=222) (by decide) rfl rfl
theorem U76 (hg:Box w gb 55 (ncs b R))(h:BnX X w R b)(hs:Ya n b):w.cell? ⟨gb,223,none⟩=some (.int .i64 b.top):=Z4 (S:=Ym b R) hg (h.lens hs) 11 0 (o:=223) (by decide) rfl rfl
theorem U58 (hg:Box w gb 55 (ncs b R))(h:BnX X w R b)(hs:Ya n b):w.cell? ⟨gb,272,none⟩=some (.int .i64 b.ver):=Z4 (S:=Ym b R) hg (h.lens hs) 14 0 (o:=272) (by decide) rfl rfl
theorem n_m (hg:Box w gb 55 (ncs b R))(h:BnX X w R b)(hs:Ya n b):w.rangeAt gb 224 (Ul b.m R.vs):=Ue4 (S:=Ym b R) hg (h.lens hs) 12 (by decide) rfl
theorem n_x (hg:Box w gb 55 (ncs b R))(h:BnX X w R b)(hs:Ya n b):w.rangeAt gb 243 b.x.list:=Ue4 (S:=Ym b R) hg (h.lens hs) 13 (by decide) rfl
theorem U4m (hg:Box w gb 55 (ncs b R))(h:BnX X w R b)(hs:Ya n b):w.rangeAt gb 1 b.cals.list:=Ue4 (S:=Ym b R) hg (h.lens hs) 1 (by decide) rfl
theorem U59 (hg:Box w gb 55 (ncs b R))(h:BnX X w R b)(hs:Ya n b){k:Nat}(hk:k<4):w.cell? ⟨gb,170+k,none⟩=some (.int .i64 (b.begun.getD k 0)):=Z4 (S:=Ym b R) hg (h.lens hs) 5 k (o:=170) (by decide) rfl (Ue6 (by rw[hs.begun.len];exact hk))
theorem U4n (hg:Box w gb 55 (ncs b R))(h:BnX X w R b)(hs:Ya n b){k:Nat}(hk:k<4):w.cell? ⟨gb,178+k,none⟩=some (.int .i64 (b.head.getD k 0)):=Z4 (S:=Ym b R) hg (h.lens hs) 7 k (o:=178) (by decide) rfl (Ue6 (by rw[hs.head.len];exact hk))
end
def Uel (b:Bch):List Uw:=if b.phase<4 then Uyh (15*b.phase) 2 (b.head.getD b.phase.toNat 0) else Uep 60 (2*b.ver) (U0 b.x)
def U6a (code:List Uw)(w:World)(e:Ending)(w':World):Prop:=∃v B,e = .returned v∧Uc6 w' B v code∧w.heap.size≤B∧Below w.heap.size w w'
theorem U0x {X:Nat→Prop}{gb:Nat}{w:World}{R:Rep}{b:Bch}{n:Int}(hg:Box w gb 55 (ncs b R))(h:BnX X w R b)(hs:Ya n b)(hn:n≤1000000){p:Nat}(hp:b.phase=(p:Int))(hp4:p<4) :
  Calls prog 63 #[.pointer (some ⟨gb,0,none⟩)] w (U6a (Uel b) w):=by
 have xp:=Ue7 hg h hs;have xh:=U4n hg h hs hp4;have hh0:=hs.head.lo p hp4;have hh1:=hs.head.hi p hp4;have F:Hid (Uel b=Uyh (15*(p:Int)) 2 (b.head.getD p 0)):=Qd (by unfold Uel;rw[hp,if_pos (by omega)];rfl);rw[F.out];rw[hp] at xp;have HLT:=Qd hg.lt;generalize b.head.getD p 0=hd at *;have KP:Hid (∀W,Calls prog 89 #[.int .i64 (15*(p:Int)),.int .i64 2,.int .i64 hd] W (Ub4 (Uyh (15*(p:Int)) 2 hd) W)):=Qd (fun W=>U2j (by unfold I64;omega));generalize Uyh (15*(p:Int)) 2 hd=code at *;have hw:IntKind.i64.wrap (15*(p:Int))=15*(p:Int):=by rw[Xf];omega
 have hp0:(0:Int)≤p:=by omega
 have hpl:(p:Int)<4:=by omega
 clear hg h hs hn hp hp4 hh0 hh1 F;go_enter func63,ntmps63;go_upto_region 2 with fail
 refine Xm (S:=fun w'=>w'.cell? ⟨gb,222,none⟩=some (.int .i64 (p:Int))∧w'.cell? ⟨gb,178+p,none⟩=some (.int .i64 hd)) (by kernel_rfl) ⟨xp,xh⟩ (fun hHeld=>?_);refine Qn 0 (.pointer (some ⟨gb,0,none⟩)) ?_;refine Qn 1 (.pointer (some ⟨gb,0,none⟩)) ?_;refine Qn 2 (.pointer (some ⟨gb,222,none⟩)) ?_;refine Qe 3 (.int .i64 (p:Int)) (fun w hW=>?_) ?_
 ·have x1:=hW.1;have x2:=hW.2;go_simp
 simp only[Qz];refine Qn 4 (.int .i64 (15*(p:Int))) ?_;refine Qn 5 (.pointer (some ⟨gb,0,none⟩)) ?_;refine Qn 6 (.pointer (some ⟨gb,0,none⟩)) ?_;refine Qn 7 (.pointer (some ⟨gb,0,none⟩)) ?_;refine Qn 8 (.pointer (some ⟨gb,222,none⟩)) ?_;refine Qe 9 (.int .i64 (p:Int)) (fun w hW=>?_) ?_
 ·have x1:=hW.1;have x2:=hW.2;go_simp
 simp only[Qz];refine Qn 10 (.pointer (some ⟨gb,0,none⟩)) ?_;refine Qn 11 (.pointer (some ⟨gb,178,none⟩)) ?_;refine Qn 12 (.pointer (some ⟨gb,178+p,none⟩)) ?_;refine Qe 13 (.int .i64 hd) (fun w hW=>?_) ?_
 ·have x1:=hW.1;have x2:=hW.2;go_simp
 simp only[Qz];refine Ut fun WD hWD=>?_
 have DD:Hid (Below w.heap.size w WD):=Qd (by rw[hWD];exact Ue (Xb _ _) 1);clear hWD;refine Qc 14 fun KQ hKQ=>?_
 go_simp;refine(KP.out _).mono ?_;rintro e w1 ⟨v,rfl,ho,hb⟩;have HF:Hid (U6a code w (.returned v) w1):=Qd ⟨v,_,rfl,ho,DD.out.size,Ua DD.out hb DD.out.size⟩;have HH:Hid (w1.cell? ⟨gb,222,none⟩=some (.int .i64 (p:Int))∧w1.cell? ⟨gb,178+p,none⟩=some (.int .i64 hd)):=Qd ⟨((Ua DD.out hb DD.out.size).cell (p:=⟨gb,222,none⟩) HLT.out).trans xp,((Ua DD.out hb DD.out.size).cell (p:=⟨gb,178+p,none⟩) HLT.out).trans xh⟩;clear ho hb;refine hKQ.out _ _ HH.out (fun hHeld=>?_);clear hKQ KQ;refine Qn 15 v ?_;refine Xl (by kernel_rfl) ?_ _;clear xp xh hHeld;go_wp2_with fail;go_ret;exact HF.out
theorem Utg {X:Nat→Prop}{gb:Nat}{w:World}{R:Rep}{b:Bch}{n:Int}(hg:Box w gb 55 (ncs b R))(h:BnX X w R b)(hs:Ya n b)(hn:n≤1000000)(hp:b.phase=4) :
  Calls prog 63 #[.pointer (some ⟨gb,0,none⟩)] w (U6a (Uel b) w):=by
 have xp:=Ue7 hg h hs;have xv:=U58 hg h hs;have hv0:=hs.ver0;have hv1:=hs.ver;have HXR:Hid (∀W,Below w.heap.size w W→W.rangeAt gb 243 b.x.list):=Qd (fun W hb=>n_x (hg.kept hb) (h.below hb) hs);have F:Hid (Uel b=Uep 60 (2*b.ver) (U0 b.x)):=Qd (by unfold Uel;rw[hp,if_neg (by decide)]);rw[F.out];rw[hp] at xp;have HLT:=Qd hg.lt;have KX:Hid (∀W,Calls prog 91 #[stv b.x] W (Ubj (U0 b.x) W)):=Qd (fun W=>Us9 hs.x W);have KW:Hid (∀W v,Yx W v (U0 b.x)→Calls prog 90 #[.int .i64 60,.int .i64 (2*b.ver),v] W (Ub4 (Uep 60 (2*b.ver) (U0 b.x)) W)):=Qd (fun W v hv=>Uym (by unfold I64;omega) hv);have SX:Hid ((prog.info? 52).map (·.size)=some b.x.list.length):=Qd Yj;have ev:stv b.x = .agg b.x.list.toArray:=rfl;rw[ev] at KX;have hw:IntKind.i64.wrap (2*b.ver)=2*b.ver:=by rw[Xf];omega
 generalize Uep 60 (2*b.ver) (U0 b.x)=code at *;generalize U0 b.x=ws at *;generalize b.x.list=xl at *;generalize b.ver=ver at *;clear hg h hs hn hp hv0 hv1 F ev;go_enter func63,ntmps63;go_upto_region 3 with fail
 refine Xm (S:=fun w'=>w'.cell? ⟨gb,272,none⟩=some (.int .i64 ver)∧w'.rangeAt gb 243 xl) (by kernel_rfl) ⟨xv,HXR.out _ (Ue (Xb _ _) 1)⟩ (fun hHeld=>?_);refine Qn 0 (.pointer (some ⟨gb,0,none⟩)) ?_;refine Qn 1 (.pointer (some ⟨gb,0,none⟩)) ?_;refine Qn 2 (.pointer (some ⟨gb,272,none⟩)) ?_;refine Qe 3 (.int .i64 ver) (fun w hW=>?_) ?_
 ·have x1:=hW.1;go_simp
 simp only[Qz];refine Qn 4 (.int .i64 (2*ver)) ?_;refine Qn 5 (.pointer (some ⟨gb,0,none⟩)) ?_;refine Qn 6 (.pointer (some ⟨gb,0,none⟩)) ?_;refine Qn 7 (.pointer (some ⟨gb,243,none⟩)) ?_;refine Ux (i:=8) (v := .agg (xl).toArray) rfl rfl (by kernel_rfl) (by kernel_rfl) (by kernel_rfl) (fun _ _ _ h=>h)
  (Xn (by rfl) 52 _ rfl (gb) (243) rfl (xl) _ (fun _ h=>h.2) underlying52 rfl SX.out) hHeld ?_
 simp only[Qz];refine Ut fun WD hWD=>?_
 have DD:Hid (Below w.heap.size w WD):=Qd (by rw[hWD];exact Ue (Xb _ _) 1);clear hWD;refine Qc 9 fun KQ hKQ=>?_
 go_simp;refine(KX.out _).mono ?_;rintro e w1 ⟨v,rfl,ho,hb⟩;have D1:Hid (Below w.heap.size w w1):=Qd (Ua DD.out hb DD.out.size);have HH:Hid (w1.cell? ⟨gb,272,none⟩=some (.int .i64 ver)∧w1.rangeAt gb 243 xl):=Qd ⟨(D1.out.cell (p:=⟨gb,272,none⟩) HLT.out).trans xv,HXR.out _ D1.out⟩;have KW1:=Qd (KW.out w1 v ho.words);clear ho hb DD;refine hKQ.out _ _ HH.out (fun hHeld=>?_);clear hKQ KQ;refine Qc 10 fun KQ hKQ=>?_
 go_simp;refine KW1.out.mono ?_;rintro e w2 ⟨v2,rfl,ho,hb⟩;have HF:Hid (U6a code w (.returned v2) w2):=Qd ⟨v2,_,rfl,ho,D1.out.size,Ua D1.out hb D1.out.size⟩;have H2:Hid (w2.cell? ⟨gb,272,none⟩=some (.int .i64 ver)∧w2.rangeAt gb 243 xl):=Qd ⟨((Ua D1.out hb D1.out.size).cell (p:=⟨gb,272,none⟩) HLT.out).trans xv,HXR.out _ (Ua D1.out hb D1.out.size)⟩;clear ho hb;refine hKQ.out _ _ H2.out (fun hHeld=>?_);clear hKQ KQ;refine Qn 11 v2 ?_;refine Xl (by kernel_rfl) ?_ _;clear xp xv hHeld;go_wp2_with fail;go_ret;exact HF.out
open Tryz
open Go.RowKit Go.Shelf
theorem Uw2 {X:Nat→Prop}{gb:Nat}{w:World}{R:Rep}{b:Bch}{n:Int}(hg:Box w gb 55 (ncs b R))(h:BnX X w R b)(hs:Ya n b)(hn:n≤1000000):Calls prog 63 #[.pointer (some ⟨gb,0,none⟩)] w (U6a (Uel b) w):=by
 by_cases hp:b.phase=4
 ·exact Utg hg h hs hn hp
 ·have h0:=hs.ph0;have h4:=hs.ph4;exact U0x (p:=b.phase.toNat) hg h hs hn (by omega) (by omega)
theorem Uth {X:Nat→Prop}{gb pb:Nat}{w:World}{R:Rep}{b:Bch}{n:Int}(hb:Box w pb 99 #[.pointer (some ⟨gb,0,none⟩)])(hg:Box w gb 55 (ncs b R))(h:BnX X w R b)(hs:Ya n b)(hn:n≤1000000) :
  Calls prog 62 #[.pointer (some ⟨pb,0,none⟩)] w (U6a (Uel b) w):=by
 have K:=Qd (Uw2 hg h hs hn);have xb:=hb.cell 0;generalize Uel b=code at *;clear hg h hs hn hb;go_enter func62,ntmps62;go_wp2_with fail;refine K.out.mono ?_;rintro e w1 ⟨v,B,rfl,ho,hB,hb⟩;have F:Hid (U6a code w (.returned v) w1):=Qd ⟨v,B,rfl,ho,hB,hb⟩;clear ho hb hB xb;go_wp2_with fail;go_ret;exact F.out
def stepF (b:Bch):Bch:={ b with mem:=(goT b.fuse (Uel b) b.mem).2,fuse:=(goT b.fuse (Uel b) b.mem).1 }
theorem Uw3 {X:Nat→Prop}{gb pb:Nat}{w:World}{R:Rep}{b:Bch}{n:Int}(hpb:Box w pb 99 #[.pointer (some ⟨gb,0,none⟩)])(hg:Box w gb 55 (ncs b R))(h:BnX X w R b)(hs:Ya n b)(hn:n≤1000000)(hX:∀j,X j→j<w.heap.size)(hXg:X gb) :
  Calls prog 59 #[.pointer (some ⟨gb,0,none⟩),.pointer (some ⟨gb,186,none⟩),.func (.func 62) #[] #[.pointer (some ⟨pb,0,none⟩)]] w (Uq8 X gb (stepF b) (stepF b).fuse.t.done w):=by
 have hg':=hg;rw[Uuu] at hg';have hT:=h.fuse;have hB:∀{B k:Nat},w.heap.size≤B→X k→k<B:=fun hB hk=>Xe (hX _ hk) hB
 unfold stepF goT;dsimp only;cases hd:b.fuse.t.done
 ·rw[if_neg (by simp)];refine(Uo7 hg' (Ukb h hs) hT.1 hT.task h.mem.1 hd).mono ?_;rintro e w' ⟨cl',mv1,rfl,h1,h2,h3,⟨B,hBB,hO⟩,hc⟩;have hcX:=Uo9 hXg hc;refine⟨{ R with mem:=mv1,fuse:=cl' },rfl,?_,BnX.withFuse h hcX (WdX.own hO (fun k hk=>hB hBB hk)) ((hT.chg hcX).step h2 h3),hc⟩;have:=Ujl (b:=b) (R:=R) mv1 cl';rw[←this] at h1;exact h1
 ·rw[if_pos rfl];refine(U0v (code:=Uel b) (ms:=b.mem) (C:=U74 b R) hg' (Ukb h hs) hT.1 hT.task hd (h.mem.2.mono (fun k e=>by rw[e];exact hXg)) ?_).mono ?_
  ·refine(Uth hpb hg h hs hn).mono ?_;rintro e w1 ⟨v,B,rfl,ho,hB1,hb⟩;exact⟨v,_,rfl,ho,hB1,hg'.kept hb,h.mem.1.below hb,Chg.of hb⟩
  ·rintro e w' ⟨cl',mv1,v,B0,rfl,h1,h2,h3,ho,hB0,⟨B,hBB,hO⟩,hc⟩;have hcX:=Uo9 hXg hc;refine⟨{ R with mem:=mv1,fuse:=cl' },rfl,?_,BnX.withFuse h hcX (WdX.own hO (fun k hk=>hB hBB hk)) (TkX.fresh h2 h3 ho (fun k hk=>hB hB0 hk)),hc⟩;have:=Ujl (b:=b) (R:=R) mv1 cl';rw[←this] at h1;exact h1
def Upa (b:Bch)(k:Nat):Bch:={ b with begun:=b.begun.set k (b.begun.getD k 0+1) }
def U3f (b:Bch)(k:Nat):List Uw:=Ukx (15*(k:Int)) 2 (b.tail.getD k 0) ((b.lists.getD k []).getD (b.begun.getD k 0).toNat [])
def U0y (X:Nat→Prop)(gb:Nat)(R:Rep)(b:Bch)(code:List Uw)(w:World)(e:Ending)(w':World):Prop:=∃v B,e = .returned v∧Uc6 w' B v code∧w.heap.size≤B∧Box w' gb 55 (ncs b R)∧BnX X w' R b∧Chg (fun j=>j=gb) w w'
theorem BnX.beg {X:Nat→Prop}{w:World}{R:Rep}{b:Bch}(h:BnX X w R b)(k:Nat):BnX X w R (Upa b k):=⟨h.mem,h.ll,h.lists,h.pl,h.pub,h.fuse,h.q,h.rl,h.reads⟩
theorem Uw4 {X:Nat→Prop}{gb pb kb:Nat}{w:World}{R:Rep}{b:Bch}{n:Int}{k:Nat}(hpb:Box w pb 99 #[.pointer (some ⟨gb,0,none⟩)])(hkb:Box w kb 3 #[.int .i64 (k:Int)])(hg:Box w gb 55 (ncs b R))(h:BnX X w R b)(hs:Ya n b)(hn:n≤1000000)(hXg:X gb)(hk:k<4)(hlt:b.begun.getD k 0<((b.lists.getD k []).length:Int))(hp1:pb≠gb)(hp2:kb≠gb) :
  Calls prog 60 #[.pointer (some ⟨pb,0,none⟩),.pointer (some ⟨kb,0,none⟩)] w (U0y X gb R (Upa b k) (U3f b k) w):=by
 have hb0:=hs.begun.lo k hk;have hb1:=hs.begun.hi k hk;have ht0:=hs.tail.lo k hk;have ht1:=hs.tail.hi k hk;obtain⟨q,hq⟩:∃q:Nat,b.begun.getD k 0=(q:Int):=⟨(b.begun.getD k 0).toNat,by omega⟩;obtain⟨es,hes⟩:=h.lists k hk;obtain⟨A,c,el,hc1,hc2⟩:=hes.form;have hql:q<(b.lists.getD k []).length:=by omega
 have hes':=hes;rw[el] at hes';obtain⟨lb,lo,u,hA,hlb,hu,hwd⟩:=hes'.at_ hql;subst hA;have hlx:¬X lb:=hes'.2.2.1 _ _ _ rfl (by omega);have hlg:lb≠gb:=fun e=>hlx (by rw[e];exact hXg)
 have HNB:Hid (∀W,Box W gb 55 (ncs b R)→Box (W.setCell ⟨gb,170+k,none⟩ (.int .i64 (b.begun.getD k 0+1))) gb 55 (ncs (Upa b k) R)):=Qd (fun W H=>by
  have:=Ue5 (S:=Ym b R) H (h.lens hs) 5 k (o:=170) (by decide) rfl (by show k<(Ucb b.begun).length;rw[Ucb,List.length_map,hs.begun.len];exact hk) (.int .i64 (b.begun.getD k 0+1));have e:(Ym b R).set 5 (((Ym b R).getD 5 []).set k (.int .i64 (b.begun.getD k 0+1)))=Ym (Upa b k) R:=by
   simp[Ym,Ucb,Upa,List.map_set]
  rw[e] at this
  exact this)
 have xb:=U59 hg h hs hk;have HL:=Qd (h.lens hs);have HTL:Hid (b.tail.length=4∧b.begun.length=4∧R.lists.length=4):=Qd ⟨hs.tail.len,hs.begun.len,h.ll⟩
 have HCX:Hid (∀W,Box W gb 55 (ncs (Upa b k) R)→W.cell? ⟨gb,174+k,none⟩=some (.int .i64 (b.tail.getD k 0))∧W.cell? ⟨gb,21+k,none⟩=some (R.lists.getD k (.bool false))∧W.cell? ⟨gb,170+k,none⟩=some (.int .i64 ((q:Int)+1))):=Qd (fun W H=>by
  have hl:(Ym (Upa b k) R).map List.length=Uf0:=by rw[←HL.out];simp[Ym,Ucb,Upa]
  refine⟨Z4 (S:=Ym (Upa b k) R) H hl 6 k (o:=174) (by decide) rfl (Ue6 (by show k<b.tail.length;rw[HTL.out.1];exact hk)),Z4 (S:=Ym (Upa b k) R) H hl 2 k (o:=21) (by decide) rfl (by show R.lists[k]? = _;rw[List.getD_eq_getElem?_getD,Xj (by rw[HTL.out.2.2];exact hk)];rfl),Z4 (S:=Ym (Upa b k) R) H hl 5 k (o:=170) (by decide) rfl ?_⟩;show(Ucb (b.begun.set k (b.begun.getD k 0+1)))[k]? = _
  rw[Ue6 (by rw[List.length_set,HTL.out.2.1];exact hk),Zc (by rw[HTL.out.2.1];exact hk),hq])
 have F:Hid (U3f b k=Ukx (15*(k:Int)) 2 (b.tail.getD k 0) ((b.lists.getD k []).getD q [])):=Qd (by unfold U3f;rw[hq];rfl);rw[F.out];rw[hq] at xb HNB;rw[el] at HCX;have KP:Hid (∀W,Chg X w W→Calls prog 61 #[.int .i64 (15*(k:Int)),.int .i64 2,.int .i64 (b.tail.getD k 0),u] W (Ub4 (Ukx (15*(k:Int)) 2 (b.tail.getD k 0) ((b.lists.getD k []).getD q [])) W)):=Qd (fun W hc=>Uyk (by unfold I64;omega) (hwd.chg hc).1);have HBX:Hid (∀W,Chg X w W→BnX X W R (Upa b k)):=Qd (fun W hc=>(h.beg k).chg hc);have HXG:=Qd hXg;generalize Ukx (15*(k:Int)) 2 (b.tail.getD k 0) ((b.lists.getD k []).getD q [])=code at *;generalize (b.lists.getD k []).length=m at *;generalize b.tail.getD k 0=tl at *;generalize Upa b k=b1 at *;have hw1:IntKind.i64.wrap ((q:Int)+1)=(q:Int)+1:=by rw[Xf];omega
 have hw2:IntKind.i64.wrap (15*(k:Int))=15*(k:Int):=by rw[Xf];omega
 have hw3:IntKind.i64.wrap ((q:Int)+1-1)=(q:Int):=by rw[Xf];omega
 have hw4:IntKind.i64.wrap (q:Int)=(q:Int):=by rw[Xf];omega
 have hk0:(0:Int)≤k:=by omega
 have hk4:(k:Int)<4:=by omega
 have hq0:(0:Int)≤q:=by omega
 have hqm:(q:Int)<m:=by omega
 have HPB:=Qd hpb;have HKB:=Qd hkb;have HG:=Qd hg;have HU:=Qd hu;clear hpb hkb hg h hs hn hXg hk hlt hb0 hb1 ht0 ht1 hq hes hes' el hwd hlx HL HTL F hu hc1 hc2 hql;go_enter func60,ntmps60;go_upto_region 1 with fail
 refine Uk (S:=fun w'=>Box w' pb 99 #[.pointer (some ⟨gb,0,none⟩)]∧Box w' kb 3 #[.int .i64 (k:Int)]∧w'.cell? ⟨gb,170+k,none⟩=some (.int .i64 (q:Int))) 10 10 (by kernel_rfl) rfl (by kernel_rfl) (by decide) ⟨HPB.out.drew,HKB.out.drew,xb⟩ (fun hHeld=>?_);refine Qe 0 (.pointer (some ⟨gb,0,none⟩)) (fun w hW=>?_) ?_
 ·have x1:=hW.1.cell 0;have x2:=hW.2.1.cell 0;have x3:=hW.2.2;go_simp
 simp only[Qz];refine Qe 1 (.int .i64 (k:Int)) (fun w hW=>?_) ?_
 ·have x1:=hW.1.cell 0;have x2:=hW.2.1.cell 0;have x3:=hW.2.2;go_simp
 simp only[Qz];refine Qn 2 (.pointer (some ⟨gb,0,none⟩)) ?_;refine Qn 3 (.pointer (some ⟨gb,170,none⟩)) ?_;refine Qn 4 (.pointer (some ⟨gb,170+k,none⟩)) ?_;refine Qe 5 (.int .i64 (q:Int)) (fun w hW=>?_) ?_
 ·have x1:=hW.1.cell 0;have x2:=hW.2.1.cell 0;have x3:=hW.2.2;go_simp
 simp only[Qz];refine Qn 6 (.int .i64 ((q:Int)+1)) ?_;refine Qn 7 (.pointer (some ⟨gb,0,none⟩)) ?_;refine Qn 8 (.pointer (some ⟨gb,170,none⟩)) ?_;refine Qn 9 (.pointer (some ⟨gb,170+k,none⟩)) ?_;refine Xl (by kernel_rfl) ?_ _;have x1:w.drew.cell? ⟨gb,170+k,none⟩=some (.int .i64 (q:Int)):=xb;have f1:=HG.out.drew.frozen (170+k);refine U4 rfl (by rfl) ?_;go_simp;refine Uh6 fun W1 hW1=>?_
 have HC1:Hid (Chg (fun j=>j=gb) w W1):=Qd (by rw[hW1];exact(Chg.setCell (X:=fun j=>j=gb) (p:=⟨gb,170+k,none⟩) rfl _).drew);have HG1:Hid (Box W1 gb 55 (ncs b1 R)):=Qd (by rw[hW1];exact(HNB.out _ HG.out).drew);have HP1:Hid (Box W1 pb 99 #[.pointer (some ⟨gb,0,none⟩)]∧Box W1 kb 3 #[.int .i64 (k:Int)]):=Qd ⟨HPB.out.chg HC1.out hp1,HKB.out.chg HC1.out hp2⟩;have HU1:Hid (W1.cell? ⟨lb,lo+q,none⟩=some u):=Qd ((HC1.out.cell (p:=⟨lb,lo+q,none⟩) hlb hlg).trans HU.out);have HBL:Hid (lb<W1.heap.size):=Qd (Xe hlb HC1.out.size);clear hW1 x1 f1 hHeld xb HPB HKB HG HU HNB;go_upto_region 2 with fail
 refine Xm (S:=fun w'=>Box w' pb 99 #[.pointer (some ⟨gb,0,none⟩)]∧Box w' kb 3 #[.int .i64 (k:Int)]∧w'.cell? ⟨gb,174+k,none⟩=some (.int .i64 tl)∧w'.cell? ⟨gb,21+k,none⟩=some (.slice (some ⟨lb,lo,none⟩) m c)∧w'.cell? ⟨gb,170+k,none⟩=some (.int .i64 ((q:Int)+1))∧w'.cell? ⟨lb,lo+q,none⟩=some u) (by kernel_rfl) (by have:=HCX.out _ HG1.out.drew;exact⟨HP1.out.1.drew,HP1.out.2.drew,this.1,this.2.1,this.2.2,HU1.out⟩) (fun hHeld=>?_);refine Qe 0 (.int .i64 (k:Int)) (fun w hW=>?_) ?_
 ·have x1:=hW.1.cell 0;have x2:=hW.2.1.cell 0;have x3:=hW.2.2.1;have x4:=hW.2.2.2.1;have x5:=hW.2.2.2.2.1;have x6:=hW.2.2.2.2.2;go_simp
 simp only[Qz];refine Qn 1 (.int .i64 (15*(k:Int))) ?_;refine Qe 2 (.pointer (some ⟨gb,0,none⟩)) (fun w hW=>?_) ?_
 ·have x1:=hW.1.cell 0;have x2:=hW.2.1.cell 0;have x3:=hW.2.2.1;have x4:=hW.2.2.2.1;have x5:=hW.2.2.2.2.1;have x6:=hW.2.2.2.2.2;go_simp
 simp only[Qz];refine Qe 3 (.int .i64 (k:Int)) (fun w hW=>?_) ?_
 ·have x1:=hW.1.cell 0;have x2:=hW.2.1.cell 0;have x3:=hW.2.2.1;have x4:=hW.2.2.2.1;have x5:=hW.2.2.2.2.1;have x6:=hW.2.2.2.2.2;go_simp
 simp only[Qz];refine Qn 4 (.pointer (some ⟨gb,0,none⟩)) ?_;refine Qn 5 (.pointer (some ⟨gb,174,none⟩)) ?_;refine Qn 6 (.pointer (some ⟨gb,174+k,none⟩)) ?_;refine Qe 7 (.int .i64 tl) (fun w hW=>?_) ?_
 ·have x1:=hW.1.cell 0;have x2:=hW.2.1.cell 0;have x3:=hW.2.2.1;have x4:=hW.2.2.2.1;have x5:=hW.2.2.2.2.1;have x6:=hW.2.2.2.2.2;go_simp
 simp only[Qz];refine Qe 8 (.pointer (some ⟨gb,0,none⟩)) (fun w hW=>?_) ?_
 ·have x1:=hW.1.cell 0;have x2:=hW.2.1.cell 0;have x3:=hW.2.2.1;have x4:=hW.2.2.2.1;have x5:=hW.2.2.2.2.1;have x6:=hW.2.2.2.2.2;go_simp
 simp only[Qz];refine Qe 9 (.int .i64 (k:Int)) (fun w hW=>?_) ?_
 ·have x1:=hW.1.cell 0;have x2:=hW.2.1.cell 0;have x3:=hW.2.2.1;have x4:=hW.2.2.2.1;have x5:=hW.2.2.2.2.1;have x6:=hW.2.2.2.2.2;go_simp
 simp only[Qz];refine Qn 10 (.pointer (some ⟨gb,0,none⟩)) ?_;refine Qn 11 (.pointer (some ⟨gb,21,none⟩)) ?_;refine Qn 12 (.pointer (some ⟨gb,21+k,none⟩)) ?_;refine Qe 13 (.slice (some ⟨lb,lo,none⟩) m c) (fun w hW=>?_) ?_
 ·have x1:=hW.1.cell 0;have x2:=hW.2.1.cell 0;have x3:=hW.2.2.1;have x4:=hW.2.2.2.1;have x5:=hW.2.2.2.2.1;have x6:=hW.2.2.2.2.2;go_simp
 simp only[Qz];refine Qe 14 (.pointer (some ⟨gb,0,none⟩)) (fun w hW=>?_) ?_
 ·have x1:=hW.1.cell 0;have x2:=hW.2.1.cell 0;have x3:=hW.2.2.1;have x4:=hW.2.2.2.1;have x5:=hW.2.2.2.2.1;have x6:=hW.2.2.2.2.2;go_simp
 simp only[Qz];refine Qe 15 (.int .i64 (k:Int)) (fun w hW=>?_) ?_
 ·have x1:=hW.1.cell 0;have x2:=hW.2.1.cell 0;have x3:=hW.2.2.1;have x4:=hW.2.2.2.1;have x5:=hW.2.2.2.2.1;have x6:=hW.2.2.2.2.2;go_simp
 simp only[Qz];refine Qn 16 (.pointer (some ⟨gb,0,none⟩)) ?_;refine Qn 17 (.pointer (some ⟨gb,170,none⟩)) ?_;refine Qn 18 (.pointer (some ⟨gb,170+k,none⟩)) ?_;refine Qe 19 (.int .i64 ((q:Int)+1)) (fun w hW=>?_) ?_
 ·have x1:=hW.1.cell 0;have x2:=hW.2.1.cell 0;have x3:=hW.2.2.1;have x4:=hW.2.2.2.1;have x5:=hW.2.2.2.2.1;have x6:=hW.2.2.2.2.2;go_simp
 simp only[Qz];refine Qn 20 (.int .i64 (q:Int)) ?_;refine Qn 21 (.pointer (some ⟨lb,lo+q,none⟩)) ?_;refine Qe 22 u (fun w hW=>?_) ?_
 ·have x1:=hW.1.cell 0;have x2:=hW.2.1.cell 0;have x3:=hW.2.2.1;have x4:=hW.2.2.2.1;have x5:=hW.2.2.2.2.1;have x6:=hW.2.2.2.2.2;go_simp
 simp only[Qz];refine Ut fun WD hWD=>?_
 have DD:Hid (Below W1.heap.size W1 WD∧Chg (fun j=>j=gb) w WD):=Qd (by rw[hWD];exact⟨Ue (Xb _ _) 1,HC1.out.drew⟩);clear hWD;refine Qc 23 fun KQ hKQ=>?_
 go_simp;refine(KP.out _ (Uo9 HXG.out DD.out.2)).mono ?_;rintro e w1 ⟨v,rfl,ho,hb⟩;have HB1:Hid (Below W1.heap.size W1 w1):=Qd (Ua DD.out.1 hb DD.out.1.size);have HC2:Hid (Chg (fun j=>j=gb) w w1):=Qd (HC1.out.trans (Chg.of HB1.out));have HF:Hid (U0y X gb R b1 code w (.returned v) w1):=Qd ⟨v,_,rfl,ho,DD.out.2.size,HG1.out.kept HB1.out,HBX.out _ (Uo9 HXG.out HC2.out),HC2.out⟩;have HH:=HCX.out _ (HG1.out.kept HB1.out);clear ho hb;refine hKQ.out _ _ ⟨HP1.out.1.kept HB1.out,HP1.out.2.kept HB1.out,HH.1,HH.2.1,HH.2.2,(HB1.out.cell (p:=⟨lb,lo+q,none⟩) HBL.out).trans HU1.out⟩ (fun hHeld=>?_);clear hKQ KQ HH;refine Qn 24 v ?_;refine Xl (by kernel_rfl) ?_ _;clear hHeld;go_wp2_with fail;go_ret;exact HF.out
def stepP (b:Bch)(k:Nat):Bch :=
 if (b.pub.getD k (Ui [])).t.done then { Upa b k with mem:=(U8 (Ui (U3f b k)) b.mem).2,pub:=b.pub.set k (U8 (Ui (U3f b k)) b.mem).1 }
 else { b with mem:=(U8 (b.pub.getD k (Ui [])) b.mem).2,pub:=b.pub.set k (U8 (b.pub.getD k (Ui [])) b.mem).1 }
def Uw5 (b:Bch)(k:Nat):Bool:=((stepP b k).pub.getD k (Ui [])).t.done
theorem Uw6 {X:Nat→Prop}{gb pb kb:Nat}{w:World}{R:Rep}{b:Bch}{n:Int}{k:Nat}(hpb:Box w pb 99 #[.pointer (some ⟨gb,0,none⟩)])(hkb:Box w kb 3 #[.int .i64 (k:Int)])(hg:Box w gb 55 (ncs b R))(h:BnX X w R b)(hs:Ya n b)(hn:n≤1000000)(hX:∀j,X j→j<w.heap.size)(hXg:X gb)(hk:k<4)
  (hlt:(b.pub.getD k (Ui [])).t.done=true→b.begun.getD k 0<((b.lists.getD k []).length:Int)) (hp1:pb≠gb) (hp2:kb≠gb) :
  Calls prog 59 #[.pointer (some ⟨gb,0,none⟩),.pointer (some ⟨gb,26+36*k,none⟩),.func (.func 60) #[] #[.pointer (some ⟨pb,0,none⟩),.pointer (some ⟨kb,0,none⟩)]] w (Uq8 X gb (stepP b k) (Uw5 b k) w):=by
 have hrl:k<R.pub.length:=by rw[h.pl];exact hk
 have hg':=hg;rw[Uiu hrl] at hg';obtain⟨T,eT,hT⟩:=h.pub k hk;have hl:k<b.pub.length:=(List.getElem?_eq_some_iff.1 eT).1;have hB:∀{B k:Nat},w.heap.size≤B→X k→k<B:=fun hB hk=>Xe (hX _ hk) hB
 unfold Uw5 stepP;rw[Ugp eT] at hlt ⊢;cases hd:T.t.done
 ·rw[if_neg (by simp)];dsimp only;rw[Zc hl];refine(Uo7 hg' (Uhy h hk) hT.1 hT.task h.mem.1 hd).mono ?_;rintro e w' ⟨cl',mv1,rfl,h1,h2,h3,⟨B,hBB,hO⟩,hc⟩;have hcX:=Uo9 hXg hc;refine⟨{ R with mem:=mv1,pub:=R.pub.set k cl' },rfl,?_,BnX.withPub h hcX hk (WdX.own hO (fun k hk=>hB hBB hk)) ((hT.chg hcX).step h2 h3),hc⟩;have:=Ugo (b:=b) hrl mv1 cl';rw[←this] at h1;exact h1
 ·rw[if_pos rfl];dsimp only;rw[Zc hl];refine(U0u (code:=U3f b k) (ms:=b.mem) (C:=U73 (Upa b k) R k) hg' (Uhy h hk) hT.1 hT.task hd (h.mem.2.mono (fun k e=>by rw[e];exact hXg)) ?_).mono ?_
  ·refine(Uw4 hpb hkb hg h hs hn hXg hk (hlt hd) hp1 hp2).mono ?_;rintro e w1 ⟨v,B,rfl,ho,hB1,hbx,hq,hc⟩;rw[Uiu hrl] at hbx;exact⟨v,_,rfl,ho,hB1,hbx,hq.mem.1,hc⟩
  ·rintro e w' ⟨cl',mv1,v,B0,rfl,h1,h2,h3,ho,hB0,⟨B,hBB,hO⟩,hc⟩;have hcX:=Uo9 hXg hc;refine⟨{ R with mem:=mv1,pub:=R.pub.set k cl' },rfl,?_,BnX.withPub (h.beg k) hcX hk (WdX.own hO (fun k hk=>hB hBB hk)) (TkX.fresh h2 h3 ho (fun k hk=>hB hB0 hk)),hc⟩;have:=Ugo (b:=Upa b k) hrl mv1 cl';rw[show U3d (Upa b k) R k=U3d b R k from rfl] at this;rw[←this] at h1;exact h1
end Go.Proofs.YtdaflmjfeoacaaaGreat
