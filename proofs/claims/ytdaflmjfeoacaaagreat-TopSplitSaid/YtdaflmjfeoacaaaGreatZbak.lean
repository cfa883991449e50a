/- Part of the proof of TopTry, TopSplit: NumK, NumL, NumM. Conditions: none. -/
import Derived.Test.YtdaflmjfeoacaaaGreatZbaj
import Derived.Deep.CutBlock
set_option linter.all false
set_option maxHeartbeats 16000000
set_option maxRecDepth 4000
namespace Go.Proofs.YtdaflmjfeoacaaaGreat
open Tryz
open Go.RowKit
theorem Uvp {l y:Nat}(hy:0<y)(hy2:y<18446744073709551616)(hl:l<18446744073709551616)(w:World) :
  Calls prog 212 #[.int .u64 0,.int .u64 l,.int .u64 y] w (Ub (.tuple #[.int .u64 ((l / y:Nat):Int),.int .u64 ((l % y:Nat):Int)]) w):=by
 have e1:((y:Int)==0)=false:=by simp;omega
 have e2:decide ((y:Int)≤0)=false:=by simp;omega
 have e3:((l / y:Nat):Int)=(l:Int) / (y:Int):=Int.natCast_ediv l y;have e4:((l % y:Nat):Int)=(l:Int) % (y:Int):=Int.natCast_emod l y;have hle:l / y≤l:=Nat.div_le_self _ _;have hlm:l % y<y:=Nat.mod_lt _ hy;go_enter func212,ntmps212;have e5:IntKind.u64.wrap ((l:Int) / (y:Int))=(l:Int) / (y:Int):=by
  rw[←e3,Xg];generalize l / y=q at *;omega
 rw[e3,e4];clear e3 e4 hle hlm hl hy2;go_wp2_with fail;go_quiet (fail);go_wp2_with fail;go_ret2;exact⟨rfl,Ue (Xb _ w) _⟩
theorem Uvq (n:Nat):∀y:Nat,y<2 ^ n→0<y→y<18446744073709551616→1≤Lib.bitLen y∧Lib.bitLen y≤n∧2 ^ (Lib.bitLen y-1)≤y∧y<2 ^ Lib.bitLen y:=by
 induction n with
 | zero=>intro y h1 h2;simp at h1;omega
 | succ n ih =>
  intro y h1 h2 h3;have e:=Lib.bitLen_half y (by omega) h3;by_cases h4:y=1
  ·subst h4;exact⟨by decide,by show Lib.bitLen 1≤n+1;have:Lib.bitLen 1=1:=(by decide);omega,by decide,by decide⟩
  ·have h5:=ih (y / 2) (by rw[Nat.pow_succ] at h1;omega) (by omega) (by omega);generalize Lib.bitLen (y / 2)=k at *;obtain⟨a,b,c,d⟩:=h5;rw[e];have e2:2 ^ (1+k-1)=2*2 ^ (k-1):=by rw[show 1+k-1=(k-1)+1 by omega,Nat.pow_succ];omega
   have e3:2 ^ (1+k)=2*2 ^ k:=by rw[Nat.add_comm,Nat.pow_succ];omega
   rw[e2,e3];exact⟨by omega,by omega,by omega,by omega⟩
theorem U7i (n:Int):bits .and .u64 n 4294967295=n % 4294967296:=by
 have hb:(BitVec.ofInt 64 4294967295).toNat=4294967295:=rfl;show IntKind.u64.wrap (((BitVec.ofInt 64 n &&& BitVec.ofInt 64 4294967295).toNat:Nat):Int)=_;rw[BitVec.toNat_and,hb,show(4294967295:Nat)=2 ^ 32-1 from rfl,Nat.and_two_pow_sub_one_eq_mod,BitVec.toNat_ofInt,Xg];omega
theorem U7j {y:Nat}(hy:0<y)(hy2:y<18446744073709551616):∃s,s=64-Lib.bitLen y∧s≤63∧(64-(Lib.bitLen y:Int))=(s:Int)∧9223372036854775808≤y*2 ^ s∧y*2 ^ s<18446744073709551616:=by
 obtain⟨a,b,c,d⟩:=Uvq 64 y (by omega) hy hy2;generalize Lib.bitLen y=k at *;refine⟨_,rfl,by omega,by omega,?_,?_⟩
 ·have:=Nat.mul_le_mul_right (2 ^ (64-k)) c;rw[←Nat.pow_add,show k-1+(64-k)=63 by omega] at this;exact this
 ·have:=Nat.mul_lt_mul_of_pos_right d (show 0<2 ^ (64-k) from Nat.pow_pos (by omega));rw[←Nat.pow_add,show k+(64-k)=64 by omega] at this;exact this
theorem Uvr {h l y s:Nat}(hy:h<y)(hs:s≤63)(hY:y*2 ^ s<18446744073709551616)(hY1:9223372036854775808≤y*2 ^ s)(hl:l<18446744073709551616) :
  ∃a b u d e v,a=y*2 ^ s / 4294967296∧b=y*2 ^ s % 4294967296∧u=h*2 ^ s+l / 2 ^ (64-s)∧v=l*2 ^ s % 18446744073709551616∧d=v / 4294967296∧e=v % 4294967296∧Dig (y*2 ^ s) a b u d∧(h*18446744073709551616+l)*2 ^ s=u*18446744073709551616+d*4294967296+e ∧
   h*2 ^ s<18446744073709551616∧l / 2 ^ (64-s)<2 ^ s∧v<18446744073709551616:=by
 have hp:0<2 ^ s:=Nat.pow_pos (by omega);have hp2:0<2 ^ (64-s):=Nat.pow_pos (by omega);have e64:2 ^ (64-s)*2 ^ s=18446744073709551616:=by rw[←Nat.pow_add,show 64-s+s=64 by omega]
 have q1:l / 2 ^ (64-s)<2 ^ s:=by rw[Nat.div_lt_iff_lt_mul hp2,Nat.mul_comm,e64];exact hl
 have q2:h*2 ^ s+2 ^ s≤y*2 ^ s:=by rw[←Nat.succ_mul];exact Nat.mul_le_mul_right _ hy
 have q3:l*2 ^ s % 18446744073709551616=l % 2 ^ (64-s)*2 ^ s:=by rw[←e64,Nat.mul_mod_mul_right]
 have q4:l*2 ^ s=l / 2 ^ (64-s)*18446744073709551616+l % 2 ^ (64-s)*2 ^ s:=by
  have h1:=Nat.div_add_mod l (2 ^ (64-s));rw[←e64,←Nat.mul_assoc,←Nat.add_mul,Nat.mul_comm (l / 2 ^ (64-s)),h1]
 have q5:(h*18446744073709551616+l)*2 ^ s=h*2 ^ s*18446744073709551616+l*2 ^ s:=by rw[Nat.add_mul,Nat.mul_right_comm]
 have q6:l*2 ^ s % 18446744073709551616<18446744073709551616:=Nat.mod_lt _ (by omega);obtain⟨Y,hY'⟩:∃Y,Y=y*2 ^ s:=⟨_,rfl⟩;obtain⟨v,hv⟩:∃v,v=l*2 ^ s % 18446744073709551616:=⟨_,rfl⟩;rw[←hv] at q6 q3;have q7:(h*18446744073709551616+l)*2 ^ s=h*2 ^ s*18446744073709551616+(l / 2 ^ (64-s)*18446744073709551616+v):=by rw[q5,q4,q3]
 rw[q7];rw[←hY'] at hY hY1 q2 ⊢;rw[←hv];clear q5 q4 q3 q7 hv;generalize l / 2 ^ (64-s)=x at *;generalize h*2 ^ s=z at *;refine⟨_,_,_,_,_,_,rfl,rfl,rfl,rfl,rfl,rfl,⟨?_,?_,?_,?_,?_,?_⟩,?_,?_,q1,q6⟩<;>omega
theorem Uvs {h l y:Nat}(hh:0<h)(hy:h<y)(hy2:y<18446744073709551616)(hl:l<18446744073709551616)(w:World) :
  Calls prog 212 #[.int .u64 h,.int .u64 l,.int .u64 y] w (Ub (.tuple #[.int .u64 (((h*18446744073709551616+l) / y:Nat):Int),.int .u64 (((h*18446744073709551616+l) % y:Nat):Int)]) w):=by
 obtain⟨A,hA⟩:∃A,A=(h*18446744073709551616+l) / y:=⟨_,rfl⟩;obtain⟨D,hD⟩:∃D,D=(h*18446744073709551616+l) % y:=⟨_,rfl⟩;rw[←hA,←hD];have HAA:=Qd hA;have HDM:=Qd hD;clear hA hD;have e1:((y:Int)==0)=false:=by simp;omega
 have e2:decide ((y:Int)≤(h:Int))=false:=by simp;omega
 have e6:((h:Int)==0)=false:=by simp;omega
 obtain⟨s,hs0,hs1,hs2,hs3,hs4⟩:=U7j (y:=y) (by omega) hy2;obtain⟨a,b,u,d,e,v,ha,hb,hu,hv,hd,he,HD,hU,hh2,hl2,hv2⟩:=Uvr hy hs1 hs4 hs3 hl;have LZ:=Qd (fun w=>Tryz.bits_LeadingZeros64 (y:Int) w (by omega) (by omega));rw[Int.toNat_natCast,hs2] at LZ;obtain⟨Y,hY⟩:∃Y,Y=y*2 ^ s:=⟨_,rfl⟩;have u1:IntKind.u64.wrap (s:Int)=s:=by rw[Xg];omega
 have k1:IntKind.u64.wrap ((y:Int)*2 ^ s)=(Y:Int):=by
  have:((y:Int)*2 ^ s)=(Y:Int):=by rw[hY];push_cast;rfl
  rw[this,Xg];omega
 rw[←hY] at ha hb HD hs3 hs4;have k2:(Y:Int) / 4294967296=(a:Int):=by omega
 have k3:bits .and .u64 (Y:Int) 4294967295=(b:Int):=by rw[U7i];omega
 have k4:bits .or .u64 (IntKind.u64.wrap ((h:Int)*2 ^ s)) ((l:Int) / 2 ^ (64-s))=(u:Int):=by
  have e1:((h:Int)*2 ^ s)=((h*2 ^ s:Nat):Int):=by push_cast;rfl
  have e2:((l:Int) / 2 ^ (64-s))=((l / 2 ^ (64-s):Nat):Int):=by push_cast;rfl
  have e3:IntKind.u64.wrap ((h*2 ^ s:Nat):Int)=((h*2 ^ s:Nat):Int):=by rw[Xg];omega
  rw[e1,e3,e2,U4d s (by omega) (by push_cast;exact Int.mul_emod_left _ _) (Int.natCast_nonneg _) (by exact_mod_cast hl2),Xg];have hlt:=HD.hu;have:u<18446744073709551616:=by omega
  omega
 have k5:IntKind.u64.wrap ((l:Int)*2 ^ s)=(v:Int):=by
  have e1:((l:Int)*2 ^ s)=((l*2 ^ s:Nat):Int):=by push_cast;rfl
  rw[e1,Xg];omega
 have k6:(v:Int) / 4294967296=(d:Int):=by omega
 have k7:bits .and .u64 (v:Int) 4294967295=(e:Int):=by rw[U7i];omega
 have ha1:=HD.ha1;have ha2:=HD.ha2;have hu1:=HD.hu;have k8:((a:Int)==0)=false:=by simp;omega
 have hq:=HD.start;have hqr:=Nat.div_add_mod u a;have hrl:=Nat.mod_lt u (show a>0 by omega);obtain⟨q,hqd⟩:∃q,q=u / a:=⟨_,rfl⟩;obtain⟨r,hrd⟩:∃r,r=u % a:=⟨_,rfl⟩;have k9:IntKind.u64.wrap ((u:Int) / (a:Int))=(q:Int):=by
  have:((u:Int) / (a:Int))=(q:Int):=by rw[hqd];rfl
  rw[this,Xg];omega
 rw[←hqd] at hq hqr;rw[←hrd] at hqr hrl;obtain⟨m,hm⟩:∃m,m=q*a:=⟨_,rfl⟩;have hm':a*q=m:=by rw[hm,Nat.mul_comm]
 have k10:IntKind.u64.wrap ((q:Int)*(a:Int))=(m:Int):=by
  have:((q:Int)*(a:Int))=(m:Int):=by rw[hm];push_cast;rfl
  rw[this,Xg];omega
 have k11:IntKind.u64.wrap ((u:Int)-(m:Int))=(r:Int):=by rw[Xg];omega
 have HQ:Hid ((u*4294967296+d) / Y≤q∧q*a+r=u∧r<4294967296∧q≤4294967297):=Qd ⟨hq.1,by omega,by omega,hq.2⟩;have HDD:=Qd HD;have HE4:Hid (e<4294967296):=Qd (by omega);have HY4:Hid (Y<18446744073709551616):=Qd hs4;have HU:=Qd hU;have HYY:=Qd hY;clear HD hU hq hqr hrl hqd hrd hm hm' ha hb hu hv hd he hh2 hl2 hv2 hs3 hs4 hu1 hs2 hs0 hY;go_enter func212,ntmps212;go_wp2_with fail;refine(LZ.out _).mono ?_;rintro e w1 ⟨rfl,rfl⟩;go_upto_block 0 with fail
 go_cut [15,16] from 67 to 85 (fun i j wx=>wx=w1∧∃q r:Nat,i = .int .u64 (q:Int)∧j = .int .u64 (r:Int)∧Hid (q=(u*4294967296+d) / Y))
 case first =>
  go_wp2_with fail;go_loop [15,16] (fun i j=>∃q r:Nat,i = .int .u64 (q:Int)∧j = .int .u64 (r:Int)∧Hid ((u*4294967296+d) / Y≤q∧q*a+r=u∧r<4294967296∧q≤4294967297)) (fun _ j=>4294967296-(intOf j).toNat)
  case atStart=>exact⟨q,r,rfl,rfl,HQ⟩
  case round =>
   obtain⟨q2,r2,rfl,rfl,HQ2⟩:=hrel;obtain⟨g1,g2,g3,g4⟩:=HQ2.out;have hb4:=HDD.out.hb;have hd4:=HDD.out.hd;have t1:IntKind.u64.wrap ((q2:Int)-1)=((q2-1:Nat):Int)∨q2=0:=by
    by_cases h0:q2=0
    ·exact .inr h0
    ·exact .inl (by rw[Xg];omega)
   have t2:IntKind.u64.wrap ((r2:Int)+a)=((r2+a:Nat):Int):=by rw[Xg];omega
   have t3:IntKind.u64.wrap (4294967296*(r2:Int))=((4294967296*r2:Nat):Int):=by rw[Xg];omega
   have t4:IntKind.u64.wrap (((4294967296*r2:Nat):Int)+d)=((4294967296*r2+d:Nat):Int):=by rw[Xg];omega
   by_cases c1:4294967296≤q2
   ·have f1:decide ((4294967296:Int)≤(q2:Int))=true:=by simp;omega
    have HM:=Qd (HDD.out.more g1 g2 (.inl c1));have t1':=t1.resolve_right (by omega);have e3:(q2-1)*a+(r2+a)=u:=by
     have:=HM.out.2;have:(q2-1+1)*a=q2*a:=by rw[show q2-1+1=q2 by omega]
     rw[Nat.add_mul,Nat.one_mul] at this;omega
    clear t1 t3 t4;by_cases c2:4294967296≤r2+a
    ·have HF:Hid (q2-1=(u*4294967296+d) / Y):=Qd (HDD.out.done HM.out.1 e3 (.inr ⟨by omega,c2⟩));have f2:decide ((4294967296:Int)≤((r2+a:Nat):Int))=true:=by simp;omega
     generalize q2-1=q3 at *;generalize r2+a=r3 at *;clear g1 g2 g3 g4 hb4 hd4 c1 c2 HM e3;go_wp2_with fail;go_meet
     case rel=>exact⟨rfl,_,_,rfl,rfl,HF⟩
    ·have HF:Hid ((u*4294967296+d) / Y≤q2-1∧(q2-1)*a+(r2+a)=u∧(r2+a)<4294967296∧q2-1≤4294967297):=Qd ⟨HM.out.1,e3,by omega,by omega⟩;have f2:decide ((4294967296:Int)≤((r2+a:Nat):Int))=false:=by simp;omega
     have hme:r2<r2+a:=by omega
     generalize q2-1=q3 at *;generalize r2+a=r3 at *;clear g1 g2 g3 g4 hb4 hd4 c1 HM e3;go_wp2_with fail;go_round
     case rel=>exact⟨_,_,rfl,rfl,HF⟩
     case measure=>simp[intOf];omega
   ·have f1:decide ((4294967296:Int)≤(q2:Int))=false:=by simp;omega
    have hpb:q2*b≤4294967295*4294967295:=Nat.mul_le_mul (by omega) (by omega);obtain⟨p,hp⟩:∃p,p=q2*b:=⟨_,rfl⟩;obtain⟨z,hz⟩:∃z,z=4294967296*r2:=⟨_,rfl⟩;obtain⟨x,hx⟩:∃x,x=z+d:=⟨_,rfl⟩;rw[←hp] at hpb;have t5:IntKind.u64.wrap ((q2:Int)*b)=(p:Int):=by
     have:((q2:Int)*b)=(p:Int):=by rw[hp];push_cast;rfl
     rw[this,Xg];omega
    rw[←hz] at t3 t4;rw[←hx] at t4;by_cases c3:x<p
    ·have f3:decide (x<p)=true:=by simpa using c3
     have hq0:1≤q2:=by
      rcases Nat.eq_zero_or_pos q2 with h0|h0
      ·rw[h0,Nat.zero_mul] at hp;omega
      ·exact h0
     have HM:=Qd (HDD.out.more g1 g2 (.inr (by rw[←hz,←hp,←hx];exact c3)));have t1':=t1.resolve_right (by omega);have e3:(q2-1)*a+(r2+a)=u:=by
      have:(q2-1+1)*a=q2*a:=by rw[show q2-1+1=q2 by omega]
      rw[Nat.add_mul,Nat.one_mul] at this;omega
     clear t1;by_cases c2:4294967296≤r2+a
     ·have HF:Hid (q2-1=(u*4294967296+d) / Y):=Qd (HDD.out.done HM.out.1 e3 (.inr ⟨by omega,c2⟩));have f2:decide ((4294967296:Int)≤((r2+a:Nat):Int))=true:=by simp;omega
      generalize q2-1=q3 at *;generalize r2+a=r3 at *;clear g1 g2 g3 g4 hb4 hd4 c1 c2 c3 HM e3 hp hz hx hpb hq0;go_wp2_with fail;go_meet
      case rel=>exact⟨rfl,_,_,rfl,rfl,HF⟩
     ·have HF:Hid ((u*4294967296+d) / Y≤q2-1∧(q2-1)*a+(r2+a)=u∧(r2+a)<4294967296∧q2-1≤4294967297):=Qd ⟨HM.out.1,e3,by omega,by omega⟩;have f2:decide ((4294967296:Int)≤((r2+a:Nat):Int))=false:=by simp;omega
      have hme:r2<r2+a:=by omega
      generalize q2-1=q3 at *;generalize r2+a=r3 at *;clear g1 g2 g3 g4 hb4 hd4 c1 c3 HM e3 hp hz hx hpb hq0;go_wp2_with fail;go_round
      case rel=>exact⟨_,_,rfl,rfl,HF⟩
      case measure=>simp[intOf];omega
    ·have f3:decide (x<p)=false:=by simpa using c3
     have HF:Hid (q2=(u*4294967296+d) / Y):=Qd (HDD.out.done g1 g2 (.inl ⟨by omega,by rw[←hp,←hz,←hx];omega⟩));clear g1 g2 g3 g4 hb4 hd4 c1 c3 t1 hp hz hx hpb;go_wp2_with fail;go_meet
     case rel=>exact⟨rfl,_,_,rfl,rfl,HF⟩
 case rest =>
  obtain⟨rfl,q1,r1,rfl,rfl,HF1⟩:=hcut;obtain⟨g1,g2,g3⟩:=HDD.out.rest HF1.out;obtain⟨ρ,hρ⟩:∃ρ,ρ=(u*4294967296+d) % Y:=⟨_,rfl⟩;rw[←hρ] at g2;have hy4:=HY4.out;have HD2:Dig Y a b ρ e:=⟨HDD.out.hy,HDD.out.hb,HDD.out.ha1,HDD.out.ha2,by rw[hρ];exact Nat.mod_lt _ (by have:=HDD.out.hu;omega),HE4.out⟩;obtain⟨X,hX⟩:∃X,X=q1*Y:=⟨_,rfl⟩;rw[←hX] at g1 g2;obtain⟨U1,hU1⟩:∃U1,U1=u*4294967296 % 18446744073709551616:=⟨_,rfl⟩;obtain⟨U2,hU2⟩:∃U2,U2=(u*4294967296+d) % 18446744073709551616:=⟨_,rfl⟩;obtain⟨X2,hX2⟩:∃X2,X2=X % 18446744073709551616:=⟨_,rfl⟩;have n1:IntKind.u64.wrap ((u:Int)*4294967296)=(U1:Int):=by rw[Xg];omega
  have n2:IntKind.u64.wrap ((U1:Int)+d)=(U2:Int):=by rw[Xg];omega
  have n3:IntKind.u64.wrap ((q1:Int)*(Y:Int))=(X2:Int):=by
   have:((q1:Int)*(Y:Int))=(X:Int):=by rw[hX];push_cast;rfl
   rw[this,Xg];omega
  have hρ4:=HD2.hu;have n4:IntKind.u64.wrap ((U2:Int)-(X2:Int))=(ρ:Int):=by rw[Xg];omega
  have hq2:=HD2.start;have hqr2:=Nat.div_add_mod ρ a;have hrl2:=Nat.mod_lt ρ (show a>0 by omega);obtain⟨q4,hqe⟩:∃q4,q4=ρ / a:=⟨_,rfl⟩;obtain⟨r4,hre⟩:∃r4,r4=ρ % a:=⟨_,rfl⟩;have n9:IntKind.u64.wrap ((ρ:Int) / (a:Int))=(q4:Int):=by
   have:((ρ:Int) / (a:Int))=(q4:Int):=by rw[hqe];rfl
   rw[this,Xg];omega
  rw[←hqe] at hq2 hqr2;rw[←hre] at hqr2 hrl2;obtain⟨m4,hm4⟩:∃m4,m4=q4*a:=⟨_,rfl⟩;have hm4':a*q4=m4:=by rw[hm4,Nat.mul_comm]
  have n10:IntKind.u64.wrap ((q4:Int)*(a:Int))=(m4:Int):=by
   have:((q4:Int)*(a:Int))=(m4:Int):=by rw[hm4];push_cast;rfl
   rw[this,Xg];omega
  have n11:IntKind.u64.wrap ((ρ:Int)-(m4:Int))=(r4:Int):=by rw[Xg];omega
  have HQ4:Hid ((ρ*4294967296+e) / Y≤q4∧q4*a+r4=ρ∧r4<4294967296∧q4≤4294967297):=Qd ⟨hq2.1,by omega,by omega,hq2.2⟩;have HDE:=Qd HD2;have HRHO:=Qd hρ;clear HD2 hq2 hqr2 hrl2 hqe hre hm4 hm4' hX hρ hρ4 g1 g2 g3 HQ hy4 hU1 hU2 hX2;go_upto_block 2 with fail
  go_cut [18,16] from 102 to 120 (fun i j wx=>wx=wc∧∃q r:Nat,i = .int .u64 (q:Int)∧j = .int .u64 (r:Int)∧Hid (q=(ρ*4294967296+e) / Y))
  case first =>
   go_wp2_with fail;go_loop [18,16] (fun i j=>∃q r:Nat,i = .int .u64 (q:Int)∧j = .int .u64 (r:Int)∧Hid ((ρ*4294967296+e) / Y≤q∧q*a+r=ρ∧r<4294967296∧q≤4294967297)) (fun _ j=>4294967296-(intOf j).toNat)
   case atStart=>exact⟨q4,r4,rfl,rfl,HQ4⟩
   case round =>
    obtain⟨q2,r2,rfl,rfl,HQ2⟩:=hrel;obtain⟨g1,g2,g3,g4⟩:=HQ2.out;have hb4:=HDE.out.hb;have hd4:=HDE.out.hd;have t1:IntKind.u64.wrap ((q2:Int)-1)=((q2-1:Nat):Int)∨q2=0:=by
     by_cases h0:q2=0
     ·exact .inr h0
     ·exact .inl (by rw[Xg];omega)
    have t2:IntKind.u64.wrap ((r2:Int)+a)=((r2+a:Nat):Int):=by rw[Xg];omega
    have t3:IntKind.u64.wrap (4294967296*(r2:Int))=((4294967296*r2:Nat):Int):=by rw[Xg];omega
    have t4:IntKind.u64.wrap (((4294967296*r2:Nat):Int)+e)=((4294967296*r2+e:Nat):Int):=by rw[Xg];omega
    by_cases c1:4294967296≤q2
    ·have f1:decide ((4294967296:Int)≤(q2:Int))=true:=by simp;omega
     have HM:=Qd (HDE.out.more g1 g2 (.inl c1));have t1':=t1.resolve_right (by omega);have e3:(q2-1)*a+(r2+a)=ρ:=by
      have:=HM.out.2;have:(q2-1+1)*a=q2*a:=by rw[show q2-1+1=q2 by omega]
      rw[Nat.add_mul,Nat.one_mul] at this;omega
     clear t1 t3 t4;by_cases c2:4294967296≤r2+a
     ·have HF:Hid (q2-1=(ρ*4294967296+e) / Y):=Qd (HDE.out.done HM.out.1 e3 (.inr ⟨by omega,c2⟩));have f2:decide ((4294967296:Int)≤((r2+a:Nat):Int))=true:=by simp;omega
      generalize q2-1=q3 at *;generalize r2+a=r3 at *;clear g1 g2 g3 g4 hb4 hd4 c1 c2 HM e3;go_wp2_with fail;go_meet
      case rel=>exact⟨rfl,_,_,rfl,rfl,HF⟩
     ·have HF:Hid ((ρ*4294967296+e) / Y≤q2-1∧(q2-1)*a+(r2+a)=ρ∧(r2+a)<4294967296∧q2-1≤4294967297):=Qd ⟨HM.out.1,e3,by omega,by omega⟩;have f2:decide ((4294967296:Int)≤((r2+a:Nat):Int))=false:=by simp;omega
      have hme:r2<r2+a:=by omega
      generalize q2-1=q3 at *;generalize r2+a=r3 at *;clear g1 g2 g3 g4 hb4 hd4 c1 HM e3;go_wp2_with fail;go_round
      case rel=>exact⟨_,_,rfl,rfl,HF⟩
      case measure=>simp[intOf];omega
    ·have f1:decide ((4294967296:Int)≤(q2:Int))=false:=by simp;omega
     have hpb:q2*b≤4294967295*4294967295:=Nat.mul_le_mul (by omega) (by omega);obtain⟨p,hp⟩:∃p,p=q2*b:=⟨_,rfl⟩;obtain⟨z,hz⟩:∃z,z=4294967296*r2:=⟨_,rfl⟩;obtain⟨x,hx⟩:∃x,x=z+e:=⟨_,rfl⟩;rw[←hp] at hpb;have t5:IntKind.u64.wrap ((q2:Int)*b)=(p:Int):=by
      have:((q2:Int)*b)=(p:Int):=by rw[hp];push_cast;rfl
      rw[this,Xg];omega
     rw[←hz] at t3 t4;rw[←hx] at t4;by_cases c3:x<p
     ·have f3:decide (x<p)=true:=by simpa using c3
      have hq0:1≤q2:=by
       rcases Nat.eq_zero_or_pos q2 with h0|h0
       ·rw[h0,Nat.zero_mul] at hp;omega
       ·exact h0
      have HM:=Qd (HDE.out.more g1 g2 (.inr (by rw[←hz,←hp,←hx];exact c3)));have t1':=t1.resolve_right (by omega);have e3:(q2-1)*a+(r2+a)=ρ:=by
       have:(q2-1+1)*a=q2*a:=by rw[show q2-1+1=q2 by omega]
       rw[Nat.add_mul,Nat.one_mul] at this;omega
      clear t1;by_cases c2:4294967296≤r2+a
      ·have HF:Hid (q2-1=(ρ*4294967296+e) / Y):=Qd (HDE.out.done HM.out.1 e3 (.inr ⟨by omega,c2⟩));have f2:decide ((4294967296:Int)≤((r2+a:Nat):Int))=true:=by simp;omega
       generalize q2-1=q3 at *;generalize r2+a=r3 at *;clear g1 g2 g3 g4 hb4 hd4 c1 c2 c3 HM e3 hp hz hx hpb hq0;go_wp2_with fail;go_meet
       case rel=>exact⟨rfl,_,_,rfl,rfl,HF⟩
      ·have HF:Hid ((ρ*4294967296+e) / Y≤q2-1∧(q2-1)*a+(r2+a)=ρ∧(r2+a)<4294967296∧q2-1≤4294967297):=Qd ⟨HM.out.1,e3,by omega,by omega⟩;have f2:decide ((4294967296:Int)≤((r2+a:Nat):Int))=false:=by simp;omega
       have hme:r2<r2+a:=by omega
       generalize q2-1=q3 at *;generalize r2+a=r3 at *;clear g1 g2 g3 g4 hb4 hd4 c1 c3 HM e3 hp hz hx hpb hq0;go_wp2_with fail;go_round
       case rel=>exact⟨_,_,rfl,rfl,HF⟩
       case measure=>simp[intOf];omega
     ·have f3:decide (x<p)=false:=by simpa using c3
      have HF:Hid (q2=(ρ*4294967296+e) / Y):=Qd (HDE.out.done g1 g2 (.inl ⟨by omega,by rw[←hp,←hz,←hx];omega⟩));clear g1 g2 g3 g4 hb4 hd4 c1 c3 t1 hp hz hx hpb;go_wp2_with fail;go_meet
      case rel=>exact⟨rfl,_,_,rfl,rfl,HF⟩
  case rest =>
   obtain⟨rfl,q5,r5,rfl,rfl,HF2⟩:=hcut;obtain⟨x1,x2,x3⟩:=HDE.out.rest HF2.out;have hy4:=HY4.out;have hρ4:=HDE.out.hu;have hq14:q1<4294967296:=by rw[HF1.out];exact HDD.out.lt
   obtain⟨N,hN⟩:∃N,N=h*18446744073709551616+l:=⟨_,rfl⟩;have h2s:0<2 ^ s:=Nat.pow_pos (by omega);have hy0:0<Y:=by omega
   have td:=Uvo Y u d e hy0;rw[←HU.out,←hN,←HF1.out,←HRHO.out,←HF2.out,←x2,HYY.out,Nat.mul_div_mul_right _ _ h2s,Nat.mul_mod_mul_right,←HYY.out] at td;have hAN:A=N / y:=by rw[HAA.out,hN]
   have hDN:D=N % y:=by rw[HDM.out,hN]
   rw[←hAN,←hDN] at td;obtain⟨R,hR⟩:∃R,R=ρ*4294967296+e-q5*Y:=⟨_,rfl⟩;obtain⟨X,hX⟩:∃X,X=q5*Y:=⟨_,rfl⟩;rw[←hX] at x1 x2 hR td;obtain⟨Q1,hQ1⟩:∃Q1,Q1=q1*4294967296:=⟨_,rfl⟩;obtain⟨Q,hQ⟩:∃Q,Q=Q1+q5:=⟨_,rfl⟩;obtain⟨U1,hU1⟩:∃U1,U1=ρ*4294967296 % 18446744073709551616:=⟨_,rfl⟩;obtain⟨U2,hU2⟩:∃U2,U2=(ρ*4294967296+e) % 18446744073709551616:=⟨_,rfl⟩;obtain⟨X2,hX2⟩:∃X2,X2=X % 18446744073709551616:=⟨_,rfl⟩;have hRY:R<Y:=by
    rw[hR,x2];exact Nat.mod_lt _ hy0
   have o1:IntKind.u64.wrap ((q1:Int)*4294967296)=(Q1:Int):=by rw[Xg];omega
   have o2:IntKind.u64.wrap ((Q1:Int)+q5)=(Q:Int):=by rw[Xg];omega
   have o3:IntKind.u64.wrap ((ρ:Int)*4294967296)=(U1:Int):=by rw[Xg];omega
   have o4:IntKind.u64.wrap ((U1:Int)+e)=(U2:Int):=by rw[Xg];omega
   have o5:IntKind.u64.wrap ((q5:Int)*(Y:Int))=(X2:Int):=by
    have:((q5:Int)*(Y:Int))=(X:Int):=by rw[hX];push_cast;rfl
    rw[this,Xg];omega
   have o6:IntKind.u64.wrap ((U2:Int)-(X2:Int))=(R:Int):=by rw[Xg];omega
   have o7:(R:Int) / 2 ^ s=(D:Int):=by
    have:R=D*2 ^ s:=by rw[hR];exact td.2.symm
    rw[this];push_cast;exact Int.mul_ediv_cancel _ (by have:=Int.pow_pos (n:=2) (m:=s) (by omega);omega)
   have o8:(Q:Int)=(A:Int):=by rw[td.1,←hQ1,←hQ]
   have O8:=Qd o8;clear td o8 hAN hDN hRY hX2 hU2 hU1 hQ hQ1 hR hX hN x1 x2 x3 hy4 hρ4 hq14 hy0 h2s n1 n2 n3 n4 n9 n10 n11;go_wp2_with fail;go_ret2;exact⟨by rw[←O8.out];rfl,Xb _ _⟩
theorem Uvt {h l y:Nat}(hy:h<y)(hy2:y<18446744073709551616)(hl:l<18446744073709551616)(w:World) :
  Calls prog 212 #[.int .u64 h,.int .u64 l,.int .u64 y] w (Ub (.tuple #[.int .u64 (((h*18446744073709551616+l) / y:Nat):Int),.int .u64 (((h*18446744073709551616+l) % y:Nat):Int)]) w):=by
 by_cases h0:h=0
 ·subst h0;have:=Uvp (l:=l) (y:=y) hy hy2 hl w;rw[Nat.zero_mul,Nat.zero_add];exact this
 ·exact Uvs (by omega) hy hy2 hl w
theorem Uon {x y:Nat}(hx:x≤288230376151711744)(hy:y≤288230376151711744)(w:World) :
  Calls prog 211 #[.int .u64 x,.int .u64 y] w (Ub (.tuple #[.int .u64 (Ze x y).1,.int .u64 (Ze x y).2.1,.bool (Ze x y).2.2]) w):=by
 obtain⟨h,hh⟩:∃h,h=x / 4294967296:=⟨_,rfl⟩;obtain⟨l,hl⟩:∃l,l=x*4294967296 % 18446744073709551616:=⟨_,rfl⟩;have k1:(x:Int) / 4294967296=(h:Int):=by omega
 have k2:IntKind.u64.wrap ((x:Int)*4294967296)=(l:Int):=by rw[Xg];omega
 by_cases c:y≤h
 ·have e:Ze x y=(0,0,true):=by unfold Ze;rw[if_pos (by omega)]
  rw[e];have f1:decide (y≤h)=true:=Xi c;clear e hh hl hx hy c;go_enter func211,ntmps211;go_wp2_with fail;go_ret3;exact⟨rfl,Xb _ _⟩
 ·have hU:h*18446744073709551616+l=x*4294967296:=by omega
  have e:Ze x y=(((x*4294967296 / y:Nat):Int),((x*4294967296 % y:Nat):Int),decide (576460752303423488<((x*4294967296 / y:Nat):Int))):=by
   have q1:((x*4294967296 / y:Nat):Int)=(x:Int)*4294967296 / (y:Int):=by rw[Int.natCast_ediv,Int.natCast_mul];rfl
   have r1:((x*4294967296 % y:Nat):Int)=(x:Int)*4294967296 % (y:Int):=by rw[Int.natCast_emod,Int.natCast_mul];rfl
   unfold Ze;rw[if_neg (by omega),q1,r1]
  rw[e];have KD:=Qd (fun w=>Uvt (h:=h) (l:=l) (y:=y) (by omega) (by omega) (by omega) w);rw[hU] at KD;have f1:decide (y≤h)=false:=Xh c;generalize x*4294967296 / y=q at *;generalize x*4294967296 % y=r at *;clear e hh hl hx hy c hU;go_enter func211,ntmps211;go_wp2_with fail;refine(KD.out _).mono ?_;rintro e w1 ⟨rfl,hb⟩;have HB:=Qd hb;clear hb;go_wp2_with fail;go_ret3;exact⟨rfl,HB.out⟩
def Ugc (sa sb c:Bool)(x y:Int):Int×Bool :=
 if x=0 then (0,c||decide (y=0))
 else if y=0∧sa=true then (-288230376151711744,true)
 else if y=0 then (288230376151711744,true)
 else if (Ze x y).2.2 then ((if sa != sb then -288230376151711744 else 288230376151711744),true)
 else
  let q:=if 2*(Ze x y).2.1>y∨(2*(Ze x y).2.1=y∧sa=sb) then (Ze x y).1+1 else (Ze x y).1
  let n:=if sa != sb then -q else q
  (Um n,c||chg n)
theorem U5e (a b:Int):Y5 a b=Ugc (decide (a<0)) (decide (b<0)) (chg a||chg b) (Uc5 a) (Uc5 b):=by
 unfold Y5 Ugc;simp only[decide_eq_true_eq]
theorem U2s {x y:Nat}(hy:y≠0)(hy2:y≤288230376151711744)(hg:(Ze x y).2.2=false):0≤(Ze x y).1∧(Ze x y).1≤576460752303423488∧0≤(Ze x y).2.1∧(Ze x y).2.1<288230376151711744:=by
 unfold Ze at hg ⊢;split at hg
 ·cases hg
 ·rename_i hc;rw[if_neg hc];have h1:=Int.emod_nonneg ((x:Int)*4294967296) (show(y:Int)≠0 by omega);have h2:=Int.emod_lt_of_pos ((x:Int)*4294967296) (show 0<(y:Int) by omega);have h3:0≤(x:Int)*4294967296 / (y:Int):=Int.ediv_nonneg (by omega) (by omega);have h4:¬576460752303423488<(x:Int)*4294967296 / (y:Int):=by simpa using hg
  refine⟨h3,?_,h1,?_⟩
  ·show(x:Int)*4294967296 / (y:Int)≤_;generalize (x:Int)*4294967296 / (y:Int)=q at *;omega
  ·show(x:Int)*4294967296 % (y:Int)<_;generalize (x:Int)*4294967296 % (y:Int)=q at *;omega
def upB (R:Int)(y:Nat)(n:Bool):Bool:=decide ((y:Int)<2*R)||(decide (2*R=(y:Int)) && !n)
theorem Uvy (sa sb c:Bool)(y:Int):Ugc sa sb c 0 y=(0,c||decide (y=0)):=by unfold Ugc;rw[if_pos rfl]
theorem Uyx {sa sb c:Bool}{x y:Int}(hx:x≠0)(hy:y=0):Ugc sa sb c x y=((if sa=true then -288230376151711744 else 288230376151711744),true):=by
 unfold Ugc;rw[if_neg hx];cases sa<;>simp[hy]
theorem Usg {sa sb c n:Bool}{x y:Int}(hx:x≠0)(hy:y≠0)(hn:(sa != sb)=n)(hg:(Ze x y).2.2=true):Ugc sa sb c x y=((if n=true then -288230376151711744 else 288230376151711744),true):=by
 unfold Ugc;rw[if_neg hx,if_neg (by intro h;exact hy h.1),if_neg hy,if_pos hg,hn]
theorem Uvz {sa sb c n:Bool}{x:Int}{y:Nat}(hx:x≠0)(hy:(y:Int)≠0)(hn:(sa != sb)=n)(hg:(Ze x y).2.2=false) :
  Ugc sa sb c x y=(Um (if n=true then -(if upB (Ze x y).2.1 y n=true then (Ze x y).1+1 else (Ze x y).1) else (if upB (Ze x y).2.1 y n=true then (Ze x y).1+1 else (Ze x y).1)),
   c||chg (if n=true then -(if upB (Ze x y).2.1 y n=true then (Ze x y).1+1 else (Ze x y).1) else (if upB (Ze x y).2.1 y n=true then (Ze x y).1+1 else (Ze x y).1))):=by
 unfold Ugc;rw[if_neg hx,if_neg (by intro h;exact hy h.1),if_neg hy,if_neg (by rw[hg];decide),hn];have:(if 2*(Ze x y).2.1>(y:Int)∨(2*(Ze x y).2.1=(y:Int)∧sa=sb) then (Ze x y).1+1 else (Ze x y).1)=(if upB (Ze x y).2.1 y n=true then (Ze x y).1+1 else (Ze x y).1):=by
  subst hn;unfold upB;cases sa<;>cases sb<;>simp
 dsimp only;rw[this]
theorem Uyy {a b:Int}{sa sb c:Bool}{x y:Nat}(e1:decide (a<0)=sa)(e2:decide (b<0)=sb)(hx:x≤288230376151711744)(hy:y≤288230376151711744)
  (KA:∀w:World,Calls prog 148 #[.int .i64 a] w (fun e w'=>e = .returned (.int .i64 (x:Int))∧w=w')) (KB:∀w:World,Calls prog 148 #[.int .i64 b] w (fun e w'=>e = .returned (.int .i64 (y:Int))∧w=w'))
  (KC:∀w:World,Calls prog 186 #[.slice (some ⟨w.heap.size,0,none⟩) 2 2] (w.alloc (.cells #[.int .i64 a,.int .i64 b] 3)) (fun e w'=>e = .returned (.bool c)∧w.alloc (.cells #[.int .i64 a,.int .i64 b] 3)=w')) (w:World) :
  Calls prog 206 #[.int .i64 a,.int .i64 b] w (Ub (.tuple #[.int .i64 (Ugc sa sb c x y).1,.bool (Ugc sa sb c x y).2]) w):=by
 have HA:=Qd KA;have HB:=Qd KB;have HC:=Qd KC;have u1:IntKind.u64.wrap (x:Int)=(x:Int):=by rw[Xg];omega
 have u2:IntKind.u64.wrap (y:Int)=(y:Int):=by rw[Xg];omega
 have HL:Hid (Below w.heap.size w (w.alloc (.cells #[.int .i64 a,.int .i64 b] 3))):=Qd ((Xb _ w).alloc (Xa _) _);obtain⟨m,hm⟩:∃m,(sa==sb)=m:=⟨_,rfl⟩;have HN:Hid ((sa != sb) = !m):=Qd (by rw[←hm];rfl);have e3:(decide (a<0)==decide (b<0))=m:=by rw[e1,e2];exact hm
 have HX:=Qd hx;have HY:=Qd hy;have E1:=Qd e1;have E2:=Qd e2;clear KA KB KC hm e2 hx hy;by_cases hx0:x=0
 ·subst hx0;rw[show((0:Nat):Int)=0 from rfl,Uvy];obtain⟨z,hz⟩:∃z,((y:Int)==0)=z:=⟨_,rfl⟩;have hz2:decide ((y:Int)=0)=z:=by rw[←hz];rfl
  rw[hz2];clear hz2 e1;cases m<;>cases c
  all_goals
   go_enter func206,ntmps206;go_wp2_with fail;refine(HC.out _).mono ?_;rintro e w1 ⟨rfl,rfl⟩;go_wp2_with fail;refine(HA.out _).mono ?_;rintro e w1 ⟨rfl,rfl⟩;go_wp2_with fail;refine(HB.out _).mono ?_;rintro e w1 ⟨rfl,rfl⟩;go_wp2_with fail;go_ret2;exact⟨by simp,HL.out⟩
 have x0:((x:Int)==0)=false:=by simp;omega
 by_cases hy0:y=0
 ·have F:Hid (Ugc sa sb c x y=((if sa=true then -288230376151711744 else 288230376151711744),true)):=Qd (Uyx (by omega) (by omega));rw[F.out];clear F hx0;subst hy0;clear e1;have e1:=E1.out;have e2:=E2.out;clear e3 HN;cases sa<;>cases sb
  all_goals
   go_enter func206,ntmps206;go_wp2_with fail;refine(HC.out _).mono ?_;rintro e w1 ⟨rfl,rfl⟩;go_wp2_with fail;refine(HA.out _).mono ?_;rintro e w1 ⟨rfl,rfl⟩;go_wp2_with fail;refine(HB.out _).mono ?_;rintro e w1 ⟨rfl,rfl⟩;go_wp2_with fail;go_ret2;exact⟨rfl,HL.out⟩
 have y0:((y:Int)==0)=false:=by simp;omega
 have KQ:=Qd (fun w=>Uon HX.out HY.out w);obtain⟨g,hg⟩:∃g,(Ze x y).2.2=g:=⟨_,rfl⟩;rw[hg] at KQ;cases g
 ·have hq:=U2s hy0 HY.out hg;have F:Hid (Ugc sa sb c x y=_):=Qd (Uvz (by omega) (by omega) HN.out hg);rw[F.out];clear F hg;generalize (Ze x y).1=Q at *;generalize (Ze x y).2.1=R at *;obtain⟨q1,q2,q3,q4⟩:=hq;obtain⟨n,hn⟩:∃n,n = !m:=⟨_,rfl⟩;rw[←hn];obtain⟨u,hu⟩:∃u,upB R y n=u:=⟨_,rfl⟩;rw[hu];obtain⟨P,hP⟩:∃P,P=(if u=true then Q+1 else Q):=⟨_,rfl⟩;rw[←hP];have p1:0≤P∧P≤576460752303423489:=by rw[hP];split<;>omega
  obtain⟨S,hS⟩:∃S,S=(if n=true then -P else P):=⟨_,rfl⟩;rw[←hS];have KL:=Qd (fun w=>Yv S w);generalize Um S=cS at *;generalize chg S=bS at *;have w1:IntKind.u64.wrap (2*R)=2*R:=by rw[Xg];omega
  have w2:IntKind.u64.wrap (Q+1)=Q+1:=by rw[Xg];omega
  have w3:IntKind.i64.wrap P=P:=by rw[Xf];omega
  have w4:IntKind.i64.wrap (-P) = -P:=by rw[Xf];omega
  obtain⟨t1,ht1⟩:∃t,decide ((y:Int)<2*R)=t:=⟨_,rfl⟩;obtain⟨t2,ht2⟩:∃t,(2*R==(y:Int))=t:=⟨_,rfl⟩;have hU:Hid (u=(t1||(t2 && !n))):=Qd (by rw[←hu,←ht1,←ht2];rfl);clear hx0 hy0 e1 hu p1 q1 q2 q3 q4;have HP:=Qd hP;have HS:=Qd hS;have W2:=Qd w2;have W4:=Qd w4;clear hP hS w2 w4;cases c<;>cases m<;>cases t1<;>cases t2
  all_goals
   subst hn
   first
    | (have w5:IntKind.u64.wrap (Q+1)=P:=by rw[W2.out,HP.out,hU.out];rfl)
    | (obtain rfl:P=Q:=by rw[HP.out,hU.out];rfl)
   first
    | (have w6:IntKind.i64.wrap (-P)=S:=by rw[W4.out,HS.out];rfl)
    | (obtain rfl:S=P:=by rw[HS.out];rfl)
   go_enter func206,ntmps206;go_wp2_with fail;refine(HC.out _).mono ?_;rintro e w1 ⟨rfl,rfl⟩;go_wp2_with fail;refine(HA.out _).mono ?_;rintro e w1 ⟨rfl,rfl⟩;go_wp2_with fail;refine(HB.out _).mono ?_;rintro e w1 ⟨rfl,rfl⟩;go_wp2_with fail;refine(KQ.out _).mono ?_;rintro e w2 ⟨rfl,hb⟩;have HM:=Qd (Zw hb);clear hb;go_wp2_with fail;refine(KL.out _).mono ?_;rintro e w3 ⟨rfl,rfl⟩;go_wp2_with fail;go_ret2;exact⟨by simp,HM.out⟩
 ·have F:Hid (Ugc sa sb c x y=((if (!m)=true then -288230376151711744 else 288230376151711744),true)):=Qd (Usg (by omega) (by omega) HN.out hg);rw[F.out];generalize (Ze x y).1=Q at *;generalize (Ze x y).2.1=R at *;clear F hx0 hy0 hg e1;cases m
  all_goals
   go_enter func206,ntmps206;go_wp2_with fail;refine(HC.out _).mono ?_;rintro e w1 ⟨rfl,rfl⟩;go_wp2_with fail;refine(HA.out _).mono ?_;rintro e w1 ⟨rfl,rfl⟩;go_wp2_with fail;refine(HB.out _).mono ?_;rintro e w1 ⟨rfl,rfl⟩;go_wp2_with fail;refine(KQ.out _).mono ?_;rintro e w2 ⟨rfl,hb⟩;have HM:=Qd (Zw hb);clear hb;go_wp2_with fail;go_ret2;exact⟨rfl,HM.out⟩
theorem Uk5 (a b:Int)(w:World):Calls prog 206 #[.int .i64 a,.int .i64 b] w (Ub (.tuple #[.int .i64 (Y5 a b).1,.bool (Y5 a b).2]) w):=by
 have h1:=Uil a;have h2:=Uil b;have A:=fun w=>Ufl a w
 have B:=fun w=>Ufl b w
 rw[U5e];generalize Uc5 a=x at *;generalize Uc5 b=y at *;obtain⟨x,rfl⟩:=Int.eq_ofNat_of_zero_le h1.1;obtain⟨y,rfl⟩:=Int.eq_ofNat_of_zero_le h2.1;exact Uyy rfl rfl (by omega) (by omega) A B (fun w=>Uhe (a:=a) (b:=b) ((Box.new w _ #[_,_]).cell 0) ((Box.new w _ #[_,_]).cell 1)) w
end Go.Proofs.YtdaflmjfeoacaaaGreat
