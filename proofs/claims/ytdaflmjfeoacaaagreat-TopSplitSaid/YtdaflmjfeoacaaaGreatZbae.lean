/- Part of the proof of TopTry, TopSplit: Tp2, NumC. Conditions: none. -/
import Derived.Test.YtdaflmjfeoacaaaGreatZbac
import Derived.Test.YtdaflmjfeoacaaaGreatZbad
set_option linter.all false
set_option maxHeartbeats 16000000
set_option maxRecDepth 4000
namespace Go.Proofs.YtdaflmjfeoacaaaGreat
open Tryz
open Go.RowKit
def Ujr (x:Uw):Uw:=if x.k=4∨x.k=5 then x else { x with to:=0 }
def Ujs (b:Int)(n k q:Nat):Uw:=Ujr (Un6 b n k q)
theorem U2k {x:Uw}(h:x.ok):(Ujr x).ok:=by
 unfold Ujr;split
 ·exact h
 ·exact⟨h.1,h.2.1,h.2.2.1,by simp[I64],h.2.2.2.2⟩
theorem U45 (b:Int)(n k:Nat):onL (tab (k*(n+4)+2) (Ujs b n k))=Udn b n k:=by
 refine Ux3 fun q hq=>?_
 by_cases h:q<k*(n+4)
 ·obtain⟨i,r,hi,hr,rfl⟩:=Ukq h;unfold Ujs;rw[Ubi b hi hr];have h1:=Ucc hi hr;generalize k*(n+4)=e at *;generalize i*(n+4)=p at *;unfold Ueg Ujr onI;split
  ·rename_i h0;subst h0;simp
  ·split
   ·rename_i h0;subst h0;simp;omega
   ·split
    ·simp
    ·split
     ·first|(simp;done)|(simp;omega)
     ·first|(simp;done)|(simp;omega)
 ·generalize he:k*(n+4)=e at *;unfold Ujs Un6 Ujr onI;rw[he,if_neg h];split
  ·rename_i h0;subst h0;simp
  ·first|(simp;done)|(simp;omega)
theorem U46 {b:Int}{n k:Nat}(hb:0≤b)(hb':b≤255)(hn:n≤28)(hk:k≤6){q:Nat}(hq:q<k*(n+4)+2):(Un6 b n k q).ok:=by
 have:=U4y hb hb' hn hk (Un6 b n k q);refine this ?_;unfold Udn tab;exact List.mem_map.2 ⟨q,List.mem_range.2 hq,rfl⟩
theorem Uj6 {b n k:Int}:U37 b n k↔Uog b n∧1≤k∧k≤6:=by unfold U37 Uog;omega
theorem U68 (b:Int){n k i p:Nat}(hp:p=i*(n+4))(hi:i<k):Un6 b n k p=⟨0,b,0,(p:Int)+1,0⟩:=by
 have:=Ubi b (n:=n) (r:=0) hi (by omega);rw[Nat.add_zero,←hp] at this;rw[this];unfold Ueg;rw[if_pos rfl]
theorem U69 (b:Int){n k i p:Nat}(hp:p=i*(n+4))(hi:i<k):Un6 b n k (p+1)=⟨4,0,0,(p:Int)+((n:Int)+4),0⟩:=by
 have:=Ubi b (n:=n) (r:=1) hi (by omega);rw[←hp] at this;rw[this];unfold Ueg;rw[if_neg (by omega),if_pos rfl]
theorem U7a (b:Int){n k i p j:Nat}(hp:p=i*(n+4))(hi:i<k)(hj:j<n):Un6 b n k (p+2+j)=⟨0,b+1+(j:Int),1+(j:Int),(p:Int)+2+(j:Int)+1,0⟩:=by
 have:=Ubi b (n:=n) (r:=2+j) hi (by omega);rw[←hp,←Nat.add_assoc] at this;rw[this];unfold Ueg;rw[if_neg (by omega),if_neg (by omega),if_pos (by omega)];simp only[Uw.mk.injEq,true_and,and_true];refine⟨by omega,by omega,by omega⟩
theorem U7b (b:Int){n k i p:Nat}(hp:p=i*(n+4))(hi:i<k):Un6 b n k (p+2+n)=⟨0,b,31,(p:Int)+2+(n:Int)+1,0⟩:=by
 have:=Ubi b (n:=n) (r:=n+2) hi (by omega);rw[←hp,show p+(n+2)=p+2+n by omega] at this;rw[this];unfold Ueg;rw[if_neg (by omega),if_neg (by omega),if_neg (by omega),if_pos rfl];simp only[Uw.mk.injEq,true_and,and_true];omega
theorem U7c (b:Int){n k i p e:Nat}(hp:p=i*(n+4))(he:e=k*(n+4))(hi:i<k):Un6 b n k (p+2+n+1)=⟨5,0,31,(e:Int)+1,0⟩:=by
 have:=Ubi b (n:=n) (r:=n+3) hi (by omega);rw[←hp,show p+(n+3)=p+2+n+1 by omega,←he] at this;rw[this];unfold Ueg;rw[if_neg (by omega),if_neg (by omega),if_neg (by omega),if_neg (by omega)]
theorem U4a (b:Int){n k e:Nat}(he:e=k*(n+4)):Un6 b n k e=⟨6,0,0,(e:Int)+1,0⟩∧Un6 b n k (e+1)=⟨6,0,0,(e:Int)+2,1⟩:=by
 unfold Un6;rw[←he];exact⟨by rw[if_neg (by omega),if_pos rfl],by rw[if_neg (by omega),if_neg (by omega)]⟩
theorem Uyn {n k i p e:Nat}(hp:p=i*(n+4))(he:e=k*(n+4))(hi:i<k):p+(n+4)=(i+1)*(n+4)∧p+(n+4)≤e:=by
 have h1:(i+1)*(n+4)=i*(n+4)+(n+4):=Nat.succ_mul _ _;have h2:(i+1)*(n+4)≤k*(n+4):=Nat.mul_le_mul_right _ hi;omega
set_option maxRecDepth 20000 in
theorem U47 (b n k:Int)(w:World):Calls prog 67 #[.int .i64 b,.int .i64 n,.int .i64 k] w (Ub4 (Uh9 b n k) w):=by
 go_enter func67,ntmps67;go_wp2_with fail;refine(Ut4 b n w).mono ?_;rintro e w1 ⟨rfl,hb1⟩;have HB1:=Qd hb1;clear hb1;have FF:Hid (¬U37 b n k→Ub4 (Uh9 b n k) w (.returned (.slice none 0 0)) w1):=Qd fun hn=>⟨_,rfl,by unfold Uh9;rw[if_neg hn];exact Uc6.nil _ _,HB1.out⟩
 by_cases hmb:¬Uog b n
 ·rw[Xh hmb];have F2:=Qd (FF.out (fun h=>hmb (Uj6.1 h).1));clear hmb FF;go_wp2;go_ret;exact F2.out
 have hmb':=Decidable.not_not.1 hmb;rw[Xi hmb'];by_cases hk1:k<1
 ·have F2:=Qd (FF.out (fun h=>by have:=(Uj6.1 h).2.1;omega));clear hmb hmb' FF;go_wp2;go_ret;exact F2.out
 by_cases hk6:6<k
 ·have F2:=Qd (FF.out (fun h=>by have:=(Uj6.1 h).2.2;omega));clear hmb hmb' FF;go_wp2;go_ret;exact F2.out
 have hmay:U37 b n k:=Uj6.2 ⟨hmb',by omega,by omega⟩;obtain⟨m1,m2,m3,m4,m5,m6⟩:=hmay;clear hmb hmb' FF;obtain⟨N,rfl⟩:=Int.eq_ofNat_of_zero_le (show 0≤n by omega);obtain⟨K,rfl⟩:=Int.eq_ofNat_of_zero_le (show 0≤k by omega);have hN:N≤28:=by omega
 have hK:K≤6:=by omega
 have HMAY:Hid (U37 b (N:Int) (K:Int)):=Qd ⟨m1,m2,m3,m4,m5,m6⟩;obtain⟨E,hE⟩:∃E,E=K*(N+4):=⟨_,rfl⟩;have hE192:E≤192:=by rw[hE];exact Un7 hN hK
 have hEm:IntKind.i64.wrap ((K:Int)*((N:Int)+4))=(E:Int):=by
  have:(K:Int)*((N:Int)+4)=(E:Int):=by rw[hE];push_cast;rfl
  rw[this,Xf];omega
 have hE1:IntKind.i64.wrap ((E:Int)+1)=(E:Int)+1:=by rw[Xf];omega
 have hE2:IntKind.i64.wrap ((E:Int)+2)=(E:Int)+2:=by rw[Xf];omega
 have hN4:IntKind.i64.wrap ((N:Int)+4)=(N:Int)+4:=by rw[Xf];omega
 have hbw:IntKind.i64.wrap (b+1)=b+1:=by rw[Xf];omega
 have HOK:Hid (∀q,q<E+2→(Ujs b N K q).ok):=Qd fun q hq=>U2k (U46 m1 m2 hN hK (by rw[←hE];exact hq))
 have HE:=Qd hE;clear hE;go_wp2_with fail;go_loopw [7,26] (fun v7 q wr=>∃i p:Nat,i≤K∧p≤E∧q = .int .i64 (i:Int)∧Hid (p=i*(N+4))∧Hid (Zf w1 (tab p (Ujs b N K)) v7 wr)) (fun _ q _=>K-(intOf q).toNat)
 case atStart=>exact⟨0,0,Nat.zero_le _,Nat.zero_le _,rfl,Qd (by simp),Qd ⟨by simpa [tab] using Uc6.nil w1 _,Xb _ _⟩⟩
 case round =>
  obtain⟨i,p,hi,hpE,rfl,HP,HR⟩:=hrel;obtain⟨A7,c7,hv7⟩:=HR.out.1.form;rw[Zi] at hv7;subst hv7;by_cases hlt:i<K;rotate_right
  focus
   have hiK:¬(i:Int)<(K:Int):=by omega
   have hie:i=K:=by omega
   have hpe:p=E:=by rw[HP.out,HE.out,hie]
   subst hpe;have hf0:Ujs b N K p=⟨6,0,0,0,0⟩:=by unfold Ujs Ujr;rw[(U4a b HE.out).1];simp
   have hf1:Ujs b N K (p+1)=⟨6,0,0,0,1⟩:=by unfold Ujs Ujr;rw[(U4a b HE.out).2];simp
  rotate_right
  focus
   have hiK:(i:Int)<(K:Int):=by omega
   obtain⟨hnx1,hnx2⟩:=Uyn HP.out HE.out hlt;have HNX:=Qd hnx1;have hi1:IntKind.i64.wrap ((i:Int)+1)=(i:Int)+1:=by rw[Xf];omega
   have him:IntKind.i64.wrap (((i:Int)+1)*((N:Int)+4))=(p:Int)+((N:Int)+4):=by
    have:((i:Int)+1)*((N:Int)+4)=(p:Int)+((N:Int)+4):=by
     rw[HP.out,Int.add_mul,Int.one_mul];push_cast;rfl
    rw[this,Xf];omega
   have hp1:IntKind.i64.wrap ((p:Int)+1)=(p:Int)+1:=by rw[Xf];omega
   have hf0:Ujs b N K p=⟨0,b,0,0,0⟩:=by unfold Ujs Ujr;rw[U68 b HP.out hlt];simp
   have hf1:Ujs b N K (p+1)=⟨4,0,0,(p:Int)+((N:Int)+4),0⟩:=by unfold Ujs Ujr;rw[U69 b HP.out hlt];simp
  all_goals
   have hok0:=HOK.out p (by omega);have hok1:=HOK.out (p+1) (by omega);rw[hf0] at hok0;rw[hf1] at hok1;have H0:=Qd hf0;have H1:=Qd hf1;have HK0:=Qd hok0;have HK1:=Qd hok1
  ·clear hf0 hf1 hok0 hok1 hnx1;go_wp2_with (at_builtin;refine Ubc HR.out [⟨0,b,0,0,0⟩,⟨4,0,0,(p:Int)+((N:Int)+4),0⟩] (Ui8 HK0.out HK1.out) (p+1+1) (by rw[Zi];rfl) (by omega) rfl _ _ rfl rfl rfl ?_);intro A8 c8 w3 R30;have R3:=Qd R30;clear R30
   have R4:Hid (Zf w1 (tab (p+2+0) (Ujs b N K)) (.slice A8 (p+1+1) c8) w3):=Qd (by
    have:=R3.out;show Zf w1 (tab (p+1+1) _) _ _;rw[Ua5,Ua5,H0.out,H1.out,List.append_assoc]
    exact this)
   clear R3 HR;go_wp2_with fail;go_loopw [7,40] (fun v7 q wr=>∃j:Nat,j≤N∧q = .int .i64 (j:Int)∧Hid (Zf w1 (tab (p+2+j) (Ujs b N K)) v7 wr)) (fun _ q _=>N-(intOf q).toNat)
   case atStart=>exact⟨0,Nat.zero_le _,rfl,R4⟩
   case round =>
    clear R4;obtain⟨j,hj,rfl,HR⟩:=hrel;obtain⟨A7,c7,hv7⟩:=HR.out.1.form;rw[Zi] at hv7;subst hv7;by_cases hjn:j<N
    ·have hji:(j:Int)<(N:Int):=by omega
     have hj1:IntKind.i64.wrap (b+1+(j:Int))=b+1+(j:Int):=by rw[Xf];omega
     have hj2:IntKind.i64.wrap (1+(j:Int))=1+(j:Int):=by rw[Xf];omega
     have hf0:Ujs b N K (p+2+j)=⟨0,b+1+(j:Int),1+(j:Int),0,0⟩:=by unfold Ujs Ujr;rw[U7a b HP.out hlt hjn];simp
     have hok0:=HOK.out (p+2+j) (by omega);rw[hf0] at hok0;have HH:=Qd hf0;have HKK:=Qd hok0;clear hf0 hok0;go_wp2_with (at_builtin;refine Ubc HR.out [⟨0,b+1+(j:Int),1+(j:Int),0,0⟩] (Ut2 HKK.out) (p+2+j+1) (by rw[Zi];rfl) (by omega) rfl _ _ rfl rfl rfl ?_);intro A8 c8' w5 R60;have R6:=Qd R60;clear R60
     have R7:Hid (Zf w1 (tab (p+2+(j+1)) (Ujs b N K)) (.slice A8 (p+2+j+1) c8') w5):=Qd (by
      show Zf w1 (tab (p+2+j+1) _) _ _;rw[Ua5,HH.out]
      exact R6.out)
     clear R6;go_wp2;go_roundw
     case rel=>exact⟨j+1,by omega,by go_num,R7⟩
     case measure=>simp[intOf];omega
    ·have hji:¬(j:Int)<(N:Int):=by omega
     have hje:j=N:=by omega
     subst hje;have hf0:Ujs b j K (p+2+j)=⟨0,b,31,0,0⟩:=by unfold Ujs Ujr;rw[U7b b HP.out hlt];simp
     have hf1:Ujs b j K (p+2+j+1)=⟨5,0,31,(E:Int)+1,0⟩:=by unfold Ujs Ujr;rw[U7c b HP.out HE.out hlt];simp
     have hok0:=HOK.out (p+2+j) (by omega);have hok1:=HOK.out (p+2+j+1) (by omega);rw[hf0] at hok0;rw[hf1] at hok1;have H2:=Qd hf0;have H3:=Qd hf1;have HK2:=Qd hok0;have HK3:=Qd hok1;clear hf0 hf1 hok0 hok1;go_wp2_with (at_builtin;refine Ubc HR.out [⟨0,b,31,0,0⟩,⟨5,0,31,(E:Int)+1,0⟩] (Ui8 HK2.out HK3.out) (p+2+j+1+1) (by rw[Zi];rfl) (by omega) rfl _ _ rfl rfl rfl ?_);intro A8 c8' w5 R60;have R6:=Qd R60;clear R60
     have R7:Hid (Zf w1 (tab (p+(j+4)) (Ujs b j K)) (.slice A8 (p+2+j+1+1) c8') w5):=Qd (by
      rw[show p+(j+4)=p+2+j+1+1 by omega,Ua5,Ua5,H2.out,H3.out,List.append_assoc]
      exact R6.out)
     clear R6;go_wp2;go_roundw
     case rel=>exact⟨i+1,p+(j+4),by omega,hnx2,by go_num,HNX,R7⟩
     case measure=>simp[intOf];omega
  ·clear hf0 hf1 hok0 hok1;go_wp2_with (at_builtin;refine Ubc HR.out [⟨6,0,0,0,0⟩,⟨6,0,0,0,1⟩] (Ui8 HK0.out HK1.out) (p+1+1) (by rw[Zi];rfl) (by omega) rfl _ _ rfl rfl rfl ?_);intro A8 c8 w3 R30;have R3:=Qd R30;clear R30
   have R4:Hid (Zf w1 (tab (p+2) (Ujs b N K)) (.slice A8 (p+1+1) c8) w3):=Qd (by
    show Zf w1 (tab (p+1+1) _) _ _;rw[Ua5,Ua5,H0.out,H1.out,List.append_assoc]
    exact R3.out)
   clear R3;go_wp2_with fail;have hon:=Ukw R4.out.1 (by rw[Zi];omega);refine hon.mono ?_;rintro e w4 ⟨rfl,ho4,hg4⟩
   have F:Hid (Ub4 (Uh9 b (N:Int) (K:Int)) w (.returned (.slice A8 (p+1+1) c8)) w4):=Qd (by
    refine⟨_,rfl,?_,?_⟩
    ·have hraw:onL (tab (p+2) (Ujs b N K))=Udn b N K:=by rw[HE.out];exact U45 b N K
     rw[hraw] at ho4;unfold Uh9;rw[if_pos HMAY.out,Int.toNat_natCast,Int.toNat_natCast];exact ho4.base HB1.out.size
    ·have hb3:Below w.heap.size w w3:=Ua HB1.out R4.out.2 HB1.out.size
     exact hb3.grown hg4 hb3.size (fun j hj=>by have:=(R4.out.1.1.lt j hj).1;have:=HB1.out.size;omega))
   clear hon ho4 hg4;go_wp2;go_ret;exact F.out
def Uhc (T:FT)(n:Int):Bool:=decide (T.t.done=true∧T.t.ans=1∧1≤n∧n≤28)
def Uky (T:FT)(n:Int):Int:=if Uhc T n then T.t.regs.getD 0 0 / 2 else 0
def Ukz (T:FT)(n:Int):List Int:=if Uhc T n then (T.t.regs.drop 1).take n.toNat else []
def Z8 (T:FT)(n:Int)(w:World)(e:Ending)(w':World):Prop :=
 ∃v2,e = .returned (.tuple #[.int .i64 (Uky T n),v2,.bool (Uhc T n)])∧Yx w' v2 (Ukz T n)∧Below w.heap.size w w'
theorem Z8.nope {T:FT}{n:Int}{w w':World}(h:¬(T.t.done=true∧T.t.ans=1∧1≤n∧n≤28))(hb:Below w.heap.size w w'):Z8 T n w (.returned (.tuple #[.int .i64 0,.slice none 0 0,.bool false])) w':=by
 have hB:Uhc T n=false:=Xh h;refine⟨.slice none 0 0,?_,?_,hb⟩
 ·unfold Uky;rw[hB];rfl
 ·unfold Ukz;rw[hB];exact Yx.nil _
theorem Z8.yes {T:FT}{n:Int}{w w':World}{v:Value}(h:T.t.done=true∧T.t.ans=1∧1≤n∧n≤28)(hv:Yx w' v ((T.t.regs.drop 1).take n.toNat))(hb:Below w.heap.size w w') :
  Z8 T n w (.returned (.tuple #[.int .i64 (T.t.regs.getD 0 0 / 2),v,.bool true])) w':=by
 have hB:Uhc T n=true:=Xi h;refine⟨v,?_,?_,hb⟩
 ·unfold Uky;rw[hB];rfl
 ·unfold Ukz;rw[hB];exact hv
set_option maxRecDepth 20000 in
theorem Uvk {v:Value}{T:FT}{n:Int}{w:World}(h:Yz w v T)(hn:I64 n):Calls prog 19 #[v,.int .i64 n] w (Z8 T n w):=by
 have hok:=h.ok.1;obtain⟨cv,rfl,hI,ht,hc⟩:=h;have h32:=ht.1;have e34:=Ua2 (cv:=cv) h32;have e35:=Ug7 (cv:=cv) h32;have e2:=Ucp (cv:=cv) h32 (show 0<32 by omega);have HR:=Qd (fun i (hi:i<32)=>Ucp (cv:=cv) h32 hi);have HW:=Qd ht.2.1;have HH:=Qd h32;have HB0:Hid (∀o,Below w.heap.size w (w.alloc o)):=Qd fun o=>(Xb _ w).alloc (Xa _) o
 generalize Us cv T.t=C at *;unfold I64 at hn;clear hI ht hc h32 hok;by_cases hd:¬T.t.done=true
 ·have hd':T.t.done=false:=by simpa using hd
  rw[hd'] at e34;have F:=Qd (fun w' hb=>Z8.nope (n:=n) (w:=w) (w':=w') (fun h=>hd h.1) hb);clear hd hd';go_enter func19,ntmps19;go_wp2;go_ret3;exact F.out _ (HB0.out _)
 have hd':=Decidable.not_not.1 hd;rw[hd'] at e34;by_cases ha:¬T.t.ans=1
 ·have hne:(T.t.ans != 1)=true:=by simpa using ha
  have F:=Qd (fun w' hb=>Z8.nope (n:=n) (w:=w) (w':=w') (fun h=>ha h.2.1) hb);clear hd hd';go_enter func19,ntmps19;go_wp2;go_ret3;exact F.out _ (HB0.out _)
 have ha':=Decidable.not_not.1 ha;rw[ha'] at e35;by_cases hn1:n<1
 ·have F:=Qd (fun w' hb=>Z8.nope (n:=n) (w:=w) (w':=w') (fun h:T.t.done=true∧T.t.ans=1∧1≤n∧n≤28=>by omega) hb);clear hd hd' ha ha';go_enter func19,ntmps19;go_wp2;go_ret3;exact F.out _ (HB0.out _)
 by_cases hn28:28<n
 ·have F:=Qd (fun w' hb=>Z8.nope (n:=n) (w:=w) (w':=w') (fun h:T.t.done=true∧T.t.ans=1∧1≤n∧n≤28=>by omega) hb);clear hd hd' ha ha';go_enter func19,ntmps19;go_wp2;go_ret3;exact F.out _ (HB0.out _)
 obtain⟨N,rfl⟩:=Int.eq_ofNat_of_zero_le (show 0≤n by omega);have hN:N≤28:=by omega
 have hN1:1≤N:=by omega
 obtain⟨hcl,hcg⟩:=Ut3 HH.out hN;have F:Hid (∀v w',Yx w' v ((T.t.regs.drop 1).take N)→Below w.heap.size w w'→Z8 T (N:Int) w (.returned (.tuple #[.int .i64 (T.t.regs.getD 0 0 / 2),v,.bool true])) w'):=Qd fun v w' hv hb =>
  Z8.yes ⟨hd',ha',by omega,by omega⟩ (by rw[Int.toNat_natCast];exact hv) hb
 have hw0:W64 (T.t.regs.getD 0 0):=HW.out _ (Ufe (by rw[HH.out];omega));unfold W64 at hw0;have HCW:Hid (∀x∈(T.t.regs.drop 1).take N,W64 x):=Qd fun x hx=>HW.out x (List.mem_of_mem_drop (List.mem_of_mem_take hx))
 have HSL:Hid (∀W,Box W w.heap.size 36 C→Sl W (.slice (some ⟨w.heap.size,2+1,none⟩) N 31) 1 N (Uam ((T.t.regs.drop 1).take N))):=Qd fun W hW=>by
  refine⟨by rw[Ug3,hcl];omega,some ⟨w.heap.size,2+1,none⟩,31,rfl,by omega,by simp[maxLen],(fun e=>by cases e),fun _=>⟨_,rfl,hW.lt,fun j u hu=>?_⟩⟩;have hj:j<N:=by have:=(List.getElem?_eq_some_iff.1 hu).1;rw[Ug3,hcl] at this;exact this
  rw[Ug2 (by rw[hcl];exact hj),hcg j hj] at hu;rw[Ua7,hW.cell,show 2+1+j=2+(1+j) by omega,HR.out (1+j) (by omega)];exact hu
 have HCL:=Qd hcl;generalize T.t.regs.getD 0 0=r0 at *;generalize (T.t.regs.drop 1).take N=ws at *;have hq1:r0.tdiv 2=r0 / 2:=Int.tdiv_eq_ediv_of_nonneg hw0.1;have hq2:IntKind.u64.wrap (r0 / 2)=r0 / 2:=by rw[Xg];omega
 have hq3:IntKind.i64.wrap (r0 / 2)=r0 / 2:=by rw[Xf];omega
 have hw1:IntKind.i64.wrap ((N:Int)+1)=(N:Int)+1:=by rw[Xf];omega
 have hN32:(N:Int)+1≤32:=by omega
 have hN0:(1:Int)≤(N:Int)+1:=by omega
 clear hd hd' ha ha' hcl hcg;go_enter func19,ntmps19;go_wp2_with fail;refine Uq fun W0 hW0=>?_
 have bx:Box W0 w.heap.size 36 C:=by rw[hW0];exact Box.new _ _ _
 have hb0:Below w.heap.size w W0:=by rw[hW0];exact HB0.out _
 have c2:W0.drew.cell? ⟨w.heap.size,2,none⟩=some (.int .u64 r0):=(bx.cell 2).trans e2;have HS0:=Qd (HSL.out W0 bx);have HBX:=Qd bx;have HBB:=Qd hb0;clear hW0 bx hb0 e34 e35 e2 HB0;go_region_held3 (fun w'=>w'.cell? ⟨w.heap.size,2,none⟩=some (.int .u64 r0)) (first|exact c2|exact c9)
  (first|(go_at_call 39;refine(Ukh _ N (Uam ws) W0.drew HS0.out (by omega) (Uj3 ws)).mono ?_;rintro e w5 ⟨v5,rfl,ho5,hb5'⟩;have hb5:=Uv hb5';have c9:=(hb5.cell (p:=⟨w.heap.size,2,none⟩) HBX.out.lt).trans c2))
 have hwd:Yx w5 v5 ws:=⟨by rw[HCL.out];exact Sl.of_own ho5,HCW.out⟩;have HF:=Qd (F.out v5 w5 hwd (Ua HBB.out hb5 HBB.out.size));go_wp2;go_ret3;exact HF.out
theorem Ux {P:Program}{md:Region.Mode}{ops:Array Oper}{Q:Exit→Act→World→Prop}{S:World→Prop}{i d:Nat}{oi:Oper}{v:Value}{fuel:Nat}{listed:Array Bool}{tmps:Array Value}{ds:List Deferred}{w:World}(hi:ops[i]? = some oi)(hd:oi.dst=some d)
  (hs:Region.noSelect ops=true) (hf:Region.free md ops listed i=true) (hr:(Region.ready md ops listed).contains i=true)
  (hQ:∀c a w,Q (.panic c) (a.put oi.dst v) w→Q (.panic c) a w) (hy:YieldsIf P ops S oi v ⟨tmps,ds⟩) (hS:S w)
  (h:wpAnyH P md ops Q S fuel (listed.setIfInBounds i true) ⟨tmps.setIfInBounds d v,ds⟩ w):wpAnyH P md ops Q S (fuel+1) listed ⟨tmps,ds⟩ w :=
 wpAnyH_take hi hs hf hr hQ hy hS (by rw[hd];exact h)
theorem Ut {P:Program}{md:Region.Mode}{ops:Array Oper}{Q:Exit→Act→World→Prop}{S:World→Prop}{fuel:Nat}{listed:Array Bool}{a:Act}{w:World}(h:∀W0,W0=w→wpAnyH P md ops Q S fuel listed a W0):wpAnyH P md ops Q S fuel listed a w:=h w rfl
structure Chg (X:Nat→Prop) (w w':World):Prop where
 os:w'.os=w.os
 tape:w'.tape=w.tape
 output:w'.output=w.output
 size:w.heap.size≤w'.heap.size
 block:∀k,k<w.heap.size→¬X k→w'.heap[k]? = w.heap[k]?
section
variable {X:Nat→Prop} {w w' w'':World}
theorem Chg.refl (X:Nat→Prop)(w:World):Chg X w w:=⟨rfl,rfl,rfl,Xa _,fun _ _ _=>rfl⟩
theorem Chg.of (h:Below w.heap.size w w'):Chg X w w':=⟨h.os,h.tape,h.output,h.size,fun k hk _=>h.block k hk⟩
theorem Chg.trans (h:Chg X w w')(h':Chg X w' w''):Chg X w w'' :=
 ⟨h'.os.trans h.os,h'.tape.trans h.tape,h'.output.trans h.output,Xd h.size h'.size,fun k hk hx=>(h'.block k (Xe hk h.size) hx).trans (h.block k hk hx)⟩
theorem Chg.drew (h:Chg X w w'):Chg X w w'.drew:=⟨h.os,h.tape,h.output,h.size,h.block⟩
theorem Chg.setCell {p:Addr}(h:X p.block)(u:Value):Chg X w (w.setCell p u) :=
 ⟨rfl,rfl,rfl,by simp,fun k _ hx=>Below.heap_setCell w p u k (fun e=>hx (e▸h))⟩
theorem Chg.setCells {g:Nat}(h:X g)(o:Nat)(vs:List Value):Chg X w (w.setCells g o vs):=by
 have hg:=Yf g vs o w;exact⟨hg.os,hg.tape,hg.output,hg.size,fun k hk hx=>hg.block k hk (fun e=>by injection e with e;exact hx (e▸h))⟩
theorem Chg.grown {row:Option Nat}(h:w.grownBy w' row)(hr:∀k,row=some k→X k):Chg X w w' :=
 ⟨h.os,h.tape,h.output,h.size,fun k hk hx=>h.block k hk (fun e=>hx (hr k e.symm))⟩
theorem Chg.mono {Y:Nat→Prop}(h:Chg X w w')(hX:∀k,k<w.heap.size→X k→Y k):Chg Y w w' :=
 ⟨h.os,h.tape,h.output,h.size,fun k hk hy=>h.block k hk (fun hx=>hy (hX k hk hx))⟩
theorem Box.chg {g:Nat}{t:TypeId}{cs:Array Value}(hb:Box w g t cs)(h:Chg X w w')(hg:¬X g):Box w' g t cs:=(h.block g hb.lt hg).trans hb
def Off (X:Nat→Prop)(v:Value):Prop:=∀k,v.ownBlock=some k→¬X k
theorem Zk {base:Nat}{e:TypeId}{sz n:Nat}{v:Value}{xs:List Value}(hr:w.ownsRow base e sz v n xs)(h:Chg X w w')(ho:Off X v):w'.ownsRow base e sz v n xs:=by
 obtain⟨h1,h2⟩:=hr;refine⟨h1,?_⟩;rcases h2 with h2|⟨g',cap,cur,rfl,hg',hh,r⟩
 ·exact .inl h2
 ·exact .inr ⟨g',cap,cur,rfl,hg',(h.block g' (Array.getElem?_eq_some_iff.1 hh).1 (ho g' rfl)).trans hh,r⟩
theorem U2l {base base':Nat}{e:TypeId}{sz n:Nat}{v:Value}{xs:List Value}(hr:w.ownsRow base e sz v n xs)(hb:base'≤base):w.ownsRow base' e sz v n xs:=by
 obtain⟨h1,h2⟩:=hr;refine⟨h1,?_⟩;rcases h2 with h2|⟨g',cap,cur,rfl,hg',r⟩
 ·exact .inl h2
 ·exact .inr ⟨g',cap,cur,rfl,by omega,r⟩
theorem Box.midSet {g o:Nat}{t:TypeId}{A B C vs:List Value}(h:Box w g t (A++B++C).toArray)(ho:A.length=o)(hl:B.length=vs.length) :
  Box (w.setCells g o vs) g t (A++vs++C).toArray:=by
 subst ho;obtain⟨cur',h1,h2,h3⟩:=Uoe vs A.length _ h (by simp;omega);have e:cur'=(A++vs++C).toArray:=by
  apply Array.ext_getElem?;intro j;rw[h3 j];simp only[List.getElem?_toArray,List.getElem?_append,List.length_append];by_cases h1:j<A.length
  ·rw[if_neg (by omega),if_pos (by omega),if_pos h1,if_pos (by omega),if_pos h1]
  ·by_cases h2:j<A.length+vs.length
   ·rw[if_pos (by omega),if_pos (by omega),if_neg h1]
   ·rw[if_neg (by omega),if_neg (by omega),if_neg (by omega),hl]
 rw[←e];exact h1
theorem Box.midRange {g o:Nat}{t:TypeId}{A B C:List Value}(h:Box w g t (A++B++C).toArray)(ho:A.length=o):w.rangeAt g o B:=fun j v hv=>by
 subst ho;rw[h.cell];have hj:j<B.length:=(List.getElem?_eq_some_iff.1 hv).1;simp only[List.getElem?_toArray];rw[List.getElem?_append_left (by simp;omega),List.getElem?_append_right (by omega)];simpa using hv
theorem Box.midThere {g o n:Nat}{t:TypeId}{cs:Array Value}(h:Box w g t cs)(hn:o+n≤cs.size):w.there g o n:=fun j hj =>
 ⟨by rw[h.cell,Array.getElem?_eq_getElem (by omega)];rfl,h.frozen _⟩
end
def Ubm (P:Program)(ops:Array Oper)(Q:Exit→Act→World→Prop)(rest:List Oper)(o:Oper)(t:TypeId)(parts:Array (Nat×Operand))(a:Act)(w:World):Prop :=
 ∃v,(Instr.build t (parts.map fun(i,x)=>(i,a.eval x))).run P w = .ok v w∧wpList P ops Q rest (a.put o.dst v) w
theorem Uvl {P:Program}{w:World}{ops:Array Oper}{rest:List Oper}{o:Oper}{a:Act}{Q:Exit→Act→World→Prop}(t:TypeId)(parts:Array (Nat×Operand))(hgd:o.guard=none)(ho:o.op = .build t parts)
  (h:Ubm P ops Q rest o t parts a w):wpList P ops Q (o::rest) a w:=by
 obtain⟨v,h1,h2⟩:=h;refine wpList_plain hgd fun K hK=>?_
 unfold Oper.wp execOp;simp only[ho,Sem.run_bind,h1,Result.andThen_ok,Sem.run_pure];exact hK _ _ h2
theorem Qk {P:Program}{ops:Array Oper}{Q:Exit→Act→World→Prop}{rest:List Oper}{o:Oper}{a:Act}{w:World}(t:TypeId){parts:Array (Nat×Operand)}(h:Ubm P ops Q rest o t parts a w)(hgd:o.guard=none:=by exact rfl)(ho:o.op = .build t parts:=by exact rfl):wpList P ops Q (o::rest) a w:=Uvl t parts hgd ho h
theorem Ubm.go {P:Program}{ops:Array Oper}{Q:Exit→Act→World→Prop}{rest:List Oper}{o:Oper}{t:TypeId}{parts:Array (Nat×Operand)}{a:Act}{w:World}(v:Value)(hr:(Instr.build t (parts.map fun(i,x)=>(i,a.eval x))).run P w = .ok v w)
  (h:wpList P ops Q rest (a.put o.dst v) w):Ubm P ops Q rest o t parts a w:=⟨v,hr,h⟩
theorem Zz {w:World}{base:Nat}{e:TypeId}{sz n:Nat}{v:Value}{xs:List Value}(h:w.ownsRow base e sz v n xs):∃A cp,v = .slice A n cp∧n≤cp∧cp≤maxLen:=by
 rcases h.2 with ⟨rfl,rfl⟩|⟨g,cap,cur,rfl,_,_,h1,h2,_⟩
 ·exact⟨none,0,rfl,Xa _,Nat.zero_le _⟩
 ·exact⟨_,cap,rfl,h1,h2⟩
open Tryz
open Go.RowKit
theorem Up4 {P:Program}{o:Oper}{a:Act}{w w':World}{K:Act→World→Prop}{Q:Exit→Act→World→Prop}(t:TypeId)(parts:Array (Nat×Operand))(ho:o.op = .build t parts)(v:Value)
  (hr:(Instr.build t (parts.map fun(i,x)=>(i,a.eval x))).run P w = .ok v w') (h:K (a.put o.dst v) w'):o.wp P a w K Q:=by
 unfold Oper.wp execOp;simp only[ho,Sem.run_bind,hr,Result.andThen_ok,Sem.run_pure];exact h
theorem Uk0 (n:Int):(Um n != n)=chg n:=by
 unfold chg;by_cases h:Um n=n<;>simp[h]
theorem U5a {n:Int}(h:chg n=false) : -288230376151711744≤n∧n≤288230376151711744∧Um n=n:=by
 have h1:=Uan n;unfold chg at h;have h2:Um n=n:=by simpa using h
 omega
theorem Uk1 (n:Int)(w:World):Calls prog 94 #[.int .i64 n,.int .i64 (-288230376151711744),.int .i64 288230376151711744] w (fun e w'=>e = .returned (.int .i64 (Um n))∧w=w'):=by
 by_cases h1:n < -288230376151711744
 ·have F:Hid (Ending.returned (.int .i64 (-288230376151711744)) = .returned (.int .i64 (Um n))):=Qd (by unfold Um;rw[if_pos h1]);have h2:¬(288230376151711744:Int)<n:=by omega
  have h3:¬(-288230376151711744:Int)<n:=by omega
  go_enter func94,ntmps94;go_wp2;go_ret;exact⟨F.out,rfl⟩
 ·by_cases h2:288230376151711744<n
  ·have F:Hid (Ending.returned (.int .i64 288230376151711744) = .returned (.int .i64 (Um n))):=Qd (by unfold Um;rw[if_neg h1,if_pos h2]);go_enter func94,ntmps94;go_wp2;go_ret;exact⟨F.out,rfl⟩
  ·have F:Hid (Ending.returned (.int .i64 n) = .returned (.int .i64 (Um n))):=Qd (by unfold Um;rw[if_neg h1,if_neg h2]);by_cases h3 : -288230376151711744<n
   ·go_enter func94,ntmps94;go_wp2;go_ret;exact⟨F.out,rfl⟩
   ·obtain rfl:n = -288230376151711744:=by omega
    go_enter func94,ntmps94;go_wp2;go_ret;exact⟨F.out,rfl⟩
theorem Yv (n:Int)(w:World):Calls prog 69 #[.int .i64 n] w (fun e w'=>e = .returned (.tuple #[.int .i64 (Um n),.bool (chg n)])∧w=w'):=by
 have H:=Qd (Uk0 n);go_enter func69,ntmps69;go_wp2_with fail;refine(Uk1 n _).mono ?_;rintro e w' ⟨rfl,rfl⟩;obtain⟨x,hx⟩:∃x,x=Um n:=⟨_,rfl⟩;rw[←hx] at H ⊢;have HX:=Qd hx;clear hx;go_wp2;go_ret2;exact⟨by rw[←HX.out,←H.out];rfl,rfl⟩
theorem Zq (n:Int)(w:World):Calls prog 173 #[.int .i64 n] w (fun e w'=>e = .returned (.int .i64 (Um n))∧w=w'):=by
 go_enter func173,ntmps173;go_wp2_with fail;refine(Uk1 n _).mono ?_;rintro e w' ⟨rfl,rfl⟩;obtain⟨x,hx⟩:∃x,x=Um n:=⟨_,rfl⟩;rw[←hx];have HX:=Qd hx;clear hx;go_wp2;go_ret;exact⟨by rw[←HX.out];rfl,rfl⟩
theorem Uhd (n:Int)(w:World):Calls prog 184 #[.int .i64 n] w (fun e w'=>e = .returned (.int .i64 (Uem n))∧w=w'):=by
 have hl:=Uan n;have F:Hid (Ending.returned (.int .i64 (-Um n)) = .returned (.int .i64 (Uem n))):=Qd rfl;go_enter func184,ntmps184;go_wp2_with fail;refine(Zq n _).mono ?_;rintro e w' ⟨rfl,rfl⟩;generalize Um n=x at *;obtain⟨h1,h2⟩:=hl;have hw:IntKind.i64.wrap (-x) = -x:=by rw[Xf];omega
 go_wp2;go_ret;exact⟨F.out,rfl⟩
theorem Ufl (n:Int)(w:World):Calls prog 148 #[.int .i64 n] w (fun e w'=>e = .returned (.int .i64 (Uc5 n))∧w=w'):=by
 have hl:=Uan n;have F:Hid (∀x,x=Um n→Ending.returned (.int .i64 (if x<0 then -x else x)) = .returned (.int .i64 (Uc5 n))):=Qd fun x hx=>by subst hx;rfl
 go_enter func148,ntmps148;go_wp2_with fail;refine(Zq n _).mono ?_;rintro e w' ⟨rfl,rfl⟩;go_wp2_with fail;refine(Zq n _).mono ?_;rintro e w' ⟨rfl,rfl⟩;obtain⟨x,hx⟩:∃x,x=Um n:=⟨_,rfl⟩;rw[←hx] at hl ⊢;have HX:=Qd hx;clear hx;obtain⟨h1,h2⟩:=hl;have hw:IntKind.i64.wrap (-x) = -x:=by rw[Xf];omega
 by_cases h0:x<0
 ·have FF:=Qd ((F.out x HX.out).symm);have h3:x < -x:=by omega
  go_wp2;go_ret;exact⟨by rw[FF.out,if_pos h0];rfl,rfl⟩
 ·have FF:=Qd ((F.out x HX.out).symm);by_cases h4:x=0
  ·subst h4;go_wp2;go_ret;exact⟨by rw[FF.out];rfl,rfl⟩
  ·have h3:¬x < -x:=by omega
   go_wp2;go_ret;exact⟨by rw[FF.out,if_neg (by omega)];rfl,rfl⟩
theorem U2p (a b:Int)(w:World):Calls prog 163 #[.int .i64 a,.int .i64 b] w (fun e w'=>e = .returned (.tuple #[.int .i64 (Ubh a b).1,.bool (Ubh a b).2])∧w=w'):=by
 have la:=Uan a;have lb:=Uan b;have ba:=Uk0 a;have bb:=Uk0 b;have F:Hid (∀(z:Int) (c d e:Bool),z=Um (Um a+Um b)→c=chg (Um a+Um b)→d=chg a→e=chg b→Ending.returned (.tuple #[.int .i64 z,.bool ((c||d)||e)]) = .returned (.tuple #[.int .i64 (Ubh a b).1,.bool (Ubh a b).2])) :=
  Qd fun z c d e hz hc hd he=>by subst hz hc hd he;rfl
 obtain⟨d,hd⟩:∃d,d=chg a:=⟨_,rfl⟩;obtain⟨e,he⟩:∃e,e=chg b:=⟨_,rfl⟩;rw[←hd] at ba;rw[←he] at bb;go_enter func163,ntmps163;go_wp2_with fail;refine(Zq a _).mono ?_;rintro e' w' ⟨rfl,rfl⟩;go_wp2_with fail;refine(Zq b _).mono ?_;rintro e' w' ⟨rfl,rfl⟩;obtain⟨x,hx⟩:∃x,x=Um a:=⟨_,rfl⟩;obtain⟨y,hy⟩:∃y,y=Um b:=⟨_,rfl⟩;rw[←hx] at la ba;rw[←hy] at lb bb;rw[←hx,←hy] at F;rw[←hx,←hy];have HX:=Qd hx;have HY:=Qd hy;have HD:=Qd hd;have HE:=Qd he;have BA:=Qd ba;have BB:=Qd bb;clear hx hy hd he ba bb;obtain⟨a1,a2⟩:=la;obtain⟨b1,b2⟩:=lb;have hw:IntKind.i64.wrap (x+y)=x+y:=by rw[Xf];omega
 go_wp2_with fail;refine(Yv (x+y) _).mono ?_;rintro e' w' ⟨rfl,rfl⟩;have FF:=Qd (fun c d e=>F.out (Um (x+y)) c d e rfl);generalize Um (x+y)=z at *;obtain⟨c,hc⟩:∃c,c=chg (x+y):=⟨_,rfl⟩;rw[←hc];have HC:=Qd hc;clear hc hw F;cases c
 ·go_wp2_with fail;refine(Zq a _).mono ?_;rintro e' w' ⟨rfl,rfl⟩;rw[←HX.out];cases d
  ·have ba:=BA.out;go_wp2_with fail;refine(Zq b _).mono ?_;rintro e' w' ⟨rfl,rfl⟩;rw[←HY.out];have bb:=BB.out;go_wp2;go_ret2;exact⟨by have:=FF.out false false e HC.out HD.out HE.out;simpa using this,rfl⟩
  ·have ba:=BA.out;go_wp2;go_ret2;exact⟨by have:=FF.out false true e HC.out HD.out HE.out;simpa using this,rfl⟩
 ·go_wp2;go_ret2;exact⟨by have:=FF.out true d e HC.out HD.out HE.out;simpa using this,rfl⟩
theorem Ut8 (a b:Int)(w:World):Calls prog 160 #[.int .i64 a,.int .i64 b] w (fun e w'=>e = .returned (.tuple #[.int .i64 (Ueh a b).1,.bool (Ueh a b).2])∧w=w'):=by
 have la:=Uan a;have lb:=Uan b;have ba:=Uk0 a;have bb:=Uk0 b;have F:Hid (∀(z:Int) (c d e:Bool),z=Um (Um a-Um b)→c=chg (Um a-Um b)→d=chg a→e=chg b→Ending.returned (.tuple #[.int .i64 z,.bool ((c||d)||e)]) = .returned (.tuple #[.int .i64 (Ueh a b).1,.bool (Ueh a b).2])) :=
  Qd fun z c d e hz hc hd he=>by subst hz hc hd he;rfl
 obtain⟨d,hd⟩:∃d,d=chg a:=⟨_,rfl⟩;obtain⟨e,he⟩:∃e,e=chg b:=⟨_,rfl⟩;rw[←hd] at ba;rw[←he] at bb;go_enter func160,ntmps160;go_wp2_with fail;refine(Zq a _).mono ?_;rintro e' w' ⟨rfl,rfl⟩;go_wp2_with fail;refine(Zq b _).mono ?_;rintro e' w' ⟨rfl,rfl⟩;obtain⟨x,hx⟩:∃x,x=Um a:=⟨_,rfl⟩;obtain⟨y,hy⟩:∃y,y=Um b:=⟨_,rfl⟩;rw[←hx] at la ba;rw[←hy] at lb bb;rw[←hx,←hy] at F;rw[←hx,←hy];have HX:=Qd hx;have HY:=Qd hy;have HD:=Qd hd;have HE:=Qd he;have BA:=Qd ba;have BB:=Qd bb;clear hx hy hd he ba bb;obtain⟨a1,a2⟩:=la;obtain⟨b1,b2⟩:=lb;have hw:IntKind.i64.wrap (x-y)=x-y:=by rw[Xf];omega
 go_wp2_with fail;refine(Yv (x-y) _).mono ?_;rintro e' w' ⟨rfl,rfl⟩;have FF:=Qd (fun c d e=>F.out (Um (x-y)) c d e rfl);generalize Um (x-y)=z at *;obtain⟨c,hc⟩:∃c,c=chg (x-y):=⟨_,rfl⟩;rw[←hc];have HC:=Qd hc;clear hc hw F;cases c
 ·go_wp2_with fail;refine(Zq a _).mono ?_;rintro e' w' ⟨rfl,rfl⟩;rw[←HX.out];cases d
  ·have ba:=BA.out;go_wp2_with fail;refine(Zq b _).mono ?_;rintro e' w' ⟨rfl,rfl⟩;rw[←HY.out];have bb:=BB.out;go_wp2;go_ret2;exact⟨by have:=FF.out false false e HC.out HD.out HE.out;simpa using this,rfl⟩
  ·have ba:=BA.out;go_wp2;go_ret2;exact⟨by have:=FF.out false true e HC.out HD.out HE.out;simpa using this,rfl⟩
 ·go_wp2;go_ret2;exact⟨by have:=FF.out true d e HC.out HD.out HE.out;simpa using this,rfl⟩
end Go.Proofs.YtdaflmjfeoacaaaGreat
