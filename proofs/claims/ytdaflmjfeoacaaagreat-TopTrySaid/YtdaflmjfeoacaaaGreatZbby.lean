/- Part of the proof of TopTry: PlC. Conditions: none. -/
import Derived.Test.YtdaflmjfeoacaaaGreatZbbq
import Derived.Test.YtdaflmjfeoacaaaGreatZbbu
set_option linter.all false
set_option maxHeartbeats 16000000
set_option maxRecDepth 4000
namespace Go.Proofs.YtdaflmjfeoacaaaGreat
open Go.RowKit Go.Shelf
def Urk (c:List Uw):Prop:=∀x∈c,x.k≤2→x.k=0∨x.i<60
def Uix (c:List Uw):Prop:=∀x∈c,x.k≤2→x.k=0
theorem Upi:Urk []:=fun x hx=>by simp at hx
theorem Upj:Uix []:=fun x hx=>by simp at hx
theorem Ul5 {c:List Uw}(h:Urk c):Urk (Ui c).code:=by
 unfold Ui;split
 ·exact h
 ·exact Upi
theorem Uiy {c:List Uw}(h:Uix c):Uix (Ui c).code:=by
 unfold Ui;split
 ·exact h
 ·exact Upj
theorem Url (T:FT)(m:List Int):(U8 T m).1.code=T.code∨(U8 T m).1.code=(Ui T.code).code:=by
 unfold U8;split
 ·exact .inl rfl
 ·split
  ·exact .inr rfl
  ·split
   ·exact .inl rfl
   ·exact .inl rfl
theorem Uu3 {T:FT}(h:Urk T.code)(m:List Int):Urk (U8 T m).1.code:=by
 rcases Url T m with e|e<;>rw[e]
 ·exact h
 ·exact Ul5 h
theorem Urm {T:FT}(h:Uix T.code)(m:List Int):Uix (U8 T m).1.code:=by
 rcases Url T m with e|e<;>rw[e]
 ·exact h
 ·exact Uiy h
theorem U1p {T:FT}(h:Urk T.code){m:List Int}(hm:m.length≤256):(U8 T m).2.length=m.length∧∀i:Nat,60≤i→(U8 T m).2.getD i 0=m.getD i 0:=by
 have:=(Uko (P:=Uh8 m (fun i=>i<60)) (Ugz h) (m:=m) (by rw[Udm hm];exact Ui6 _ _)).1;exact⟨this.1,fun i hi=>this.2 i (by omega)⟩
theorem Uu4 {T:FT}(h:Uix T.code){m:List Int}(hm:m.length≤256):(U8 T m).2=m:=by
 have:=(Uko (P:=Uh8 m (fun _=>False)) (Ugz (fun x hx hk => .inl (h x hx hk))) (m:=m) (by rw[Udm hm];exact Ui6 _ _)).1;refine List.ext_getElem? fun i=>?_
 have h1:=this.1;have h2:=this.2 i (fun h=>h);by_cases hi:i<m.length
 ·rw[Xj hi,Xj (by omega)];rw[List.getD_eq_getElem?_getD,List.getD_eq_getElem?_getD,Xj hi,Xj (by omega)] at h2;exact congrArg some h2
 ·rw[List.getElem?_eq_none (by omega),List.getElem?_eq_none (by omega)]
theorem U31 {k:Nat}(hk:k<4)(t:Int)(ws:List Int):Urk (Ukx (15*(k:Int)) 2 t ws):=by
 unfold Ukx;split
 ·rename_i hp;obtain⟨h1,h2,h3,h4⟩:=Umy hp.1;intro x hx hx2;obtain⟨q,hq,rfl⟩:=Ukp hx;unfold atR at h3 h4;unfold U2i at hx2 ⊢;by_cases q0:q=0
  ·left;rw[if_pos q0]
  rw[if_neg q0] at hx2 ⊢;by_cases q1:q=1
  ·rw[if_pos q1] at hx2;exact absurd hx2 (by show ¬(3:Int)≤2;omega)
  rw[if_neg q1] at hx2 ⊢;by_cases q7:q≤7
  ·right;rw[if_pos q7];unfold atR;show 15*(k:Int)+3+6*(t % 2)+((q:Int)-2)<(60:Int);omega
  rw[if_neg q7] at hx2 ⊢;by_cases q8:q=8
  ·right;rw[if_pos q8];show 15*(k:Int)+1<(60:Int);omega
  rw[if_neg q8] at hx2 ⊢;by_cases q9:q=9
  ·rw[if_pos q9] at hx2;exact absurd hx2 (by show ¬(6:Int)≤2;omega)
  rw[if_neg q9] at hx2 ⊢;by_cases q10:q=10
  ·right;rw[if_pos q10];show 15*(k:Int)+2<(60:Int);omega
  rw[if_neg q10] at hx2;exact absurd hx2 (by show ¬(6:Int)≤2;omega)
 ·exact Upi
theorem U6u {k:Nat}(hk:k<4)(t:Int):Urk (Uyh (15*(k:Int)) 2 t):=by
 unfold Uyh;split
 ·rename_i hp;obtain⟨h1,h2,h3,h4⟩:=Umy hp;intro x hx hx2;obtain⟨q,hq,rfl⟩:=Ukp hx;unfold atR at h3 h4;unfold U8j at hx2 ⊢;by_cases q0:q=0
  ·left;rw[if_pos q0]
  rw[if_neg q0] at hx2 ⊢;by_cases q1:q=1
  ·rw[if_pos q1] at hx2;exact absurd hx2 (by show ¬(3:Int)≤2;omega)
  rw[if_neg q1] at hx2 ⊢;by_cases q7:q≤7
  ·left;rw[if_pos q7]
  rw[if_neg q7] at hx2 ⊢;by_cases q8:q=8
  ·right;rw[if_pos q8];show 15*(k:Int)<(60:Int);omega
  rw[if_neg q8] at hx2 ⊢;by_cases q9:q=9
  ·rw[if_pos q9] at hx2;exact absurd hx2 (by show ¬(6:Int)≤2;omega)
  rw[if_neg q9] at hx2 ⊢;exact absurd hx2 (by show ¬(6:Int)≤2;omega)
 ·exact Upi
theorem Uu5:Uix (Uh9 60 26 2):=by
 unfold Uh9;split
 ·exact Uu9
 ·exact Upj
def U4t (m:List Int)(x:Sta):Prop:=∀j,j<26→m.getD (61+j) 0=(U0 x).getD j 0
def Ul6 (b:Bch):Prop:=b.mem.getD 60 0=2*b.ver∧(b.ver=0∨∃x,Ual x∧(b.phase=4∨x=b.x)∧U4t b.mem x)
def Uxp (b:Bch):Prop:=b.phase=4∧∃q:Nat,1≤q∧q≤27∧b.fuse=⟨Ua1 ((60:Nat):Int) (2*b.ver) (U0 b.x),⟨(q:Int),Zy 32,false,0⟩⟩∧b.mem.getD 60 0=2*b.ver+1∧∀j,j+1<q→j<26→b.mem.getD (61+j) 0=(U0 b.x).getD j 0
structure Ul7 (b:Bch):Prop where
 len:b.mem.length=87
 pub:∀k,k<4→Urk (b.pub.getD k (Ui [])).code
 reads:∀r,r<2→Uix (b.reads.getD r (Ui [])).code
 rl:b.reads.length=2
 pl:b.pub.length=4
 st:(Ul6 b∧(b.fuse.t.done=true∨(b.phase<4∧Urk b.fuse.code)))∨Uxp b
theorem Uts {T:FT}{c:List Uw}{C:List Uw→Prop}(hT:C T.code)(hc:C (Ui c).code):C (if T.t.done then Ui c else T).code:=by
 split
 ·exact hc
 ·exact hT
theorem Uiz {b b':Bch}(h:Ul6 b)(hm:∀i:Nat,60≤i→b'.mem.getD i 0=b.mem.getD i 0)(hv:b'.ver=b.ver)(hp:b'.phase=4∨(b'.phase=b.phase∧b'.x=b.x)∨(b.phase≠4∧b'.x=b.x)):Ul6 b':=by
 obtain⟨h1,h2⟩:=h;refine⟨by rw[hm 60 (by omega),hv];exact h1,?_⟩;rw[hv];rcases h2 with h2|⟨x,hx,hpx,hh⟩
 ·exact .inl h2
 ·refine .inr ⟨x,hx,?_,fun j hj=>by rw[hm _ (by omega)];exact hh j hj⟩;rcases hp with hp|⟨hp,he⟩|⟨hp,he⟩
  ·exact .inl hp
  ·rw[hp,he];exact hpx
  ·rcases hpx with h4|hx2
   ·exact absurd h4 hp
   ·exact .inr (by rw[he];exact hx2)
theorem U1q {b b':Bch}(h:Uxp b)(hm:∀i:Nat,60≤i→b'.mem.getD i 0=b.mem.getD i 0)(hv:b'.ver=b.ver)(hp:b'.phase=b.phase)(hx:b'.x=b.x)(hf:b'.fuse=b.fuse):Uxp b':=by
 obtain⟨h4,q,h1,h2,h3,h5,h6⟩:=h;refine⟨by rw[hp];exact h4,q,h1,h2,by rw[hf,hv,hx];exact h3,by rw[hm _ (by omega),hv];exact h5,fun j hj hj2=>by rw[hm _ (by omega),hx];exact h6 j hj hj2⟩
theorem U1r {b b':Bch}(h:(Ul6 b∧(b.fuse.t.done=true∨(b.phase<4∧Urk b.fuse.code)))∨Uxp b)(hm:∀i:Nat,60≤i→b'.mem.getD i 0=b.mem.getD i 0)(hv:b'.ver=b.ver)(hp:b'.phase=b.phase)(hx:b'.x=b.x)(hf:b'.fuse=b.fuse) :
  (Ul6 b'∧(b'.fuse.t.done=true∨(b'.phase<4∧Urk b'.fuse.code)))∨Uxp b':=by
 rcases h with ⟨h1,h2⟩|h
 ·exact .inl ⟨Uiz h1 hm hv (.inr (.inl ⟨hp,hx⟩)),by rw[hf,hp];exact h2⟩
 ·exact .inr (U1q h hm hv hp hx hf)
theorem Ul7.read {b:Bch}(h:Ul7 b){r:Nat}(hr:r<2):Ul7 (Udb b r):=by
 have hc:Uix (if (b.reads.getD r (Ui [])).t.done then Ui (Uh9 60 26 2) else b.reads.getD r (Ui [])).code:=Uts (h.reads r hr) (Uiy Uu5);have hm:(Udb b r).mem=b.mem:=Uu4 hc (by have:=h.len;omega);refine⟨by rw[hm];exact h.len,h.pub,fun r' hr'=>?_,by unfold Udb;simp only[List.length_set];exact h.rl,h.pl,U1r h.st (fun i _=>by rw[hm]) rfl rfl rfl rfl⟩;show Uix ((b.reads.set r _).getD r' (Ui [])).code;by_cases e:r=r'
 ·subst e;rw[List.getD_eq_getElem?_getD,List.getElem?_set_self (by rw[h.rl];exact hr)];exact Urm hc _
 ·rw[List.getD_eq_getElem?_getD,List.getElem?_set_ne e,←List.getD_eq_getElem?_getD];exact h.reads r' hr'
theorem Ul7.stepP {b:Bch}(h:Ul7 b){k:Nat}(hk:k<4):Ul7 (Go.Proofs.YtdaflmjfeoacaaaGreat.stepP b k):=by
 have hc:Urk (if (b.pub.getD k (Ui [])).t.done then Ui (U3f b k) else b.pub.getD k (Ui [])).code:=Uts (h.pub k hk) (Ul5 (U31 hk _ _));have hm:=U1p hc (m:=b.mem) (by have:=h.len;omega);have e:(Go.Proofs.YtdaflmjfeoacaaaGreat.stepP b k).mem=(goT (b.pub.getD k (Ui [])) (U3f b k) b.mem).2∧(Go.Proofs.YtdaflmjfeoacaaaGreat.stepP b k).pub=b.pub.set k (goT (b.pub.getD k (Ui [])) (U3f b k) b.mem).1∧(Go.Proofs.YtdaflmjfeoacaaaGreat.stepP b k).reads=b.reads∧(Go.Proofs.YtdaflmjfeoacaaaGreat.stepP b k).ver=b.ver∧(Go.Proofs.YtdaflmjfeoacaaaGreat.stepP b k).phase=b.phase∧(Go.Proofs.YtdaflmjfeoacaaaGreat.stepP b k).x=b.x∧(Go.Proofs.YtdaflmjfeoacaaaGreat.stepP b k).fuse=b.fuse:=by
  unfold Go.Proofs.YtdaflmjfeoacaaaGreat.stepP goT;split<;>exact⟨rfl,rfl,rfl,rfl,rfl,rfl,rfl⟩
 obtain⟨e1,e2,e3,e4,e5,e6,e7⟩:=e;refine⟨by rw[e1];exact hm.1.trans h.len,fun k' hk'=>?_,by rw[e3];exact h.reads,by rw[e3];exact h.rl,by rw[e2,List.length_set];exact h.pl,U1r h.st (fun i hi=>by rw[e1];exact hm.2 i hi) e4 e5 e6 e7⟩;rw[e2];by_cases e:k=k'
 ·subst e;rw[List.getD_eq_getElem?_getD,List.getElem?_set_self (by rw[h.pl];exact hk)];exact Uu3 hc _
 ·rw[List.getD_eq_getElem?_getD,List.getElem?_set_ne e,←List.getD_eq_getElem?_getD];exact h.pub k' hk'
theorem Ul7.pubN {b:Bch}(h:Ul7 b){k:Nat}(hk:k<4):Ul7 (Go.Proofs.YtdaflmjfeoacaaaGreat.pubN b k):=by
 have h1:=h.stepP hk;unfold Go.Proofs.YtdaflmjfeoacaaaGreat.pubN;split
 ·split
  all_goals
   exact⟨h1.len,h1.pub,h1.reads,h1.rl,h1.pl,h1.st⟩
 ·exact h1
theorem U1s {ver:Int}(hv:0≤ver)(x:Sta):Uep 60 (2*ver) (U0 x)=Ua1 ((60:Nat):Int) (2*ver) (U0 x):=by
 unfold Uep;rw[if_pos ⟨by omega,by omega,by rw[Ubv];omega,by rw[Ubv];omega,by omega,by omega⟩]
 rfl
theorem Uny {ver:Int}{x:Sta}{m:List Int}(hm:m.length=87){q:Nat}(hq:q≤27) :
  (U8 ⟨Ua1 ((60:Nat):Int) (2*ver) (U0 x),⟨(q:Int),Zy 32,false,0⟩⟩ m).2=(if q=0 then m.set 60 (2*ver+1) else if q≤26 then m.set (60+q) ((U0 x).getD (q-1) 0) else m.set 60 (2*ver+2)) ∧
  (q≤26→(U8 ⟨Ua1 ((60:Nat):Int) (2*ver) (U0 x),⟨(q:Int),Zy 32,false,0⟩⟩ m).1=⟨Ua1 ((60:Nat):Int) (2*ver) (U0 x),⟨((q+1:Nat):Int),Zy 32,false,0⟩⟩) ∧
  (q=27→(U8 ⟨Ua1 ((60:Nat):Int) (2*ver) (U0 x),⟨(q:Int),Zy 32,false,0⟩⟩ m).1.t.done=true):=by
 have hl:=Ubv x;have hst:=Ux5 (b:=60) (ver:=2*ver) (ws:=U0 x) (by omega) (by omega) (m:=m) (by omega) (by omega) (q:=q) (by omega) (Zy 32) 0;rw[hst,hl];refine⟨rfl,fun h=>?_,fun h=>?_⟩
 ·simp only;rw[Umu (by omega)]
 ·subst h;have hs:=Uf6 (b:=((60:Nat):Int)) (ver:=2*ver) (ws:=U0 x) (by omega) (by omega);have hll:=Uib ((60:Nat):Int) (2*ver) (U0 x);simp only;rw[Utx (x:=⟨6,0,0,((U0 x).length:Int)+3,1⟩) hs rfl (by simp only;omega) (by simp only;omega) ?_ rfl];simp only[Int.toNat_natCast];rw[Ukr _ _ _ (by omega)];unfold Ug0;rw[if_neg (by omega),if_neg (by omega),if_neg (by omega)]
theorem Ui0 {b:Bch}(hd:(stepF b).fuse.t.done=false):fuseN b=stepF b:=by
 unfold fuseN;rw[if_neg (by rw[hd];simp)]
theorem Uxq {b:Bch}(hd:(stepF b).fuse.t.done=true)(hp:b.phase=4):fuseN b={ stepF b with ver:=b.ver+1,phase:=0 }:=by
 unfold fuseN;rw[if_pos hd,if_pos (show(stepF b).phase=4 from hp)]
 rfl
theorem U1t {b:Bch}(hd:(stepF b).fuse.t.done=true)(hp:b.phase≠4):fuseN b=mergeF (phF (popF (stepF b))):=by
 unfold fuseN;rw[if_pos hd,if_neg (show ¬(stepF b).phase=4 from hp)]
theorem U1u (b:Bch):(popF b).mem=b.mem∧(popF b).pub=b.pub∧(popF b).reads=b.reads∧(popF b).ver=b.ver∧(popF b).x=b.x∧(popF b).fuse=b.fuse:=by
 unfold popF;split<;>exact⟨rfl,rfl,rfl,rfl,rfl,rfl⟩
theorem Utt (b:Bch):(mergeF b).mem=b.mem∧(mergeF b).pub=b.pub∧(mergeF b).reads=b.reads∧(mergeF b).ver=b.ver∧(mergeF b).phase=b.phase∧(mergeF b).fuse=b.fuse∧(b.phase≠4→(mergeF b).x=b.x):=by
 unfold mergeF;split
 ·rename_i h;exact⟨rfl,rfl,rfl,rfl,rfl,rfl,fun e=>absurd h e⟩
 ·exact⟨rfl,rfl,rfl,rfl,rfl,rfl,fun _=>rfl⟩
theorem Ul7.fuseN {n:Int}{b:Bch}(h:Ul7 b)(hs:Ya n b):Ul7 (Go.Proofs.YtdaflmjfeoacaaaGreat.fuseN b):=by
 have hm87:=h.len;have hv0:=hs.ver0;have mk:∀b':Bch,b'.mem.length=87→b'.pub=b.pub→b'.reads=b.reads→((Ul6 b'∧(b'.fuse.t.done=true∨(b'.phase<4∧Urk b'.fuse.code)))∨Uxp b')→Ul7 b':=fun b' e1 e2 e3 e4 =>
  ⟨e1,by rw[e2];exact h.pub,by rw[e3];exact h.reads,by rw[e3];exact h.rl,by rw[e2];exact h.pl,e4⟩
 rcases h.st with ⟨hq,hf⟩|hB
 ·by_cases h4:b.phase=4
  ·-- a write begins
   have hd:b.fuse.t.done=true:=by
    rcases hf with hf|⟨hf,_⟩
    ·exact hf
    ·omega
   have e:goT b.fuse (Uel b) b.mem=U8 ⟨Ua1 ((60:Nat):Int) (2*b.ver) (U0 b.x),⟨((0:Nat):Int),Zy 32,false,0⟩⟩ b.mem:=by
    unfold goT;rw[if_pos hd];unfold Uel;rw[if_neg (by omega),U1s hv0,Ur2 (by rw[Ubv];omega) (by rw[Ubv];omega)]
   obtain⟨w1,w2,_⟩:=Uny (ver:=b.ver) (x:=b.x) hm87 (q:=0) (by omega);rw[if_pos rfl] at w1;have f1:(stepF b).mem=b.mem.set 60 (2*b.ver+1):=by unfold stepF;simp only;rw[e];exact w1
   have f2:(stepF b).fuse=⟨Ua1 ((60:Nat):Int) (2*b.ver) (U0 b.x),⟨((1:Nat):Int),Zy 32,false,0⟩⟩:=by unfold stepF;simp only;rw[e];exact w2 (by omega)
   rw[Ui0 (by rw[f2])];refine mk _ (by rw[f1,List.length_set];exact hm87) rfl rfl (.inr ⟨h4,1,by omega,by omega,f2,?_,fun j hj=>absurd hj (by omega)⟩);rw[f1,Uar _ (by omega)]
   rfl
  ·have hp4:b.phase<4:=by have:=hs.ph4;omega
   have hp0:=hs.ph0;obtain⟨p,hp⟩:∃p:Nat,b.phase=(p:Int):=⟨b.phase.toNat,by omega⟩;have hc:Urk (if b.fuse.t.done then Ui (Uel b) else b.fuse).code:=by
    have hpop:Urk (Ui (Uel b)).code:=by
     refine Ul5 ?_;unfold Uel;rw[if_pos hp4,hp];exact U6u (by omega) _
    split
    ·exact hpop
    ·rename_i hnd;rcases hf with hf|⟨_,hf⟩
     ·exact absurd hf hnd
     ·exact hf
   have hm:=U1p hc (m:=b.mem) (by omega);have f1:(stepF b).mem.length=87∧∀i:Nat,60≤i→(stepF b).mem.getD i 0=b.mem.getD i 0:=⟨hm.1.trans hm87,hm.2⟩;have f2:Urk (stepF b).fuse.code:=Uu3 hc _;by_cases hd:(stepF b).fuse.t.done=true
   ·rw[U1t hd h4];obtain⟨p1,p2,p3,p4,p5,p6⟩:=U1u (stepF b);obtain⟨g1,g2,g3,g4,g5,g6,g7⟩:=Utt (phF (popF (stepF b)));have gp:(mergeF (phF (popF (stepF b)))).phase=b.phase+1:=by rw[g5];show(popF (stepF b)).phase+1=_;rw[Udv];rfl
    refine mk _ (by rw[g1];show(popF (stepF b)).mem.length=87;rw[p1];exact f1.1) (by rw[g2];exact p2) (by rw[g3];exact p3) (.inl ⟨Uiz hq (fun i hi=>by rw[g1];show(popF (stepF b)).mem.getD i 0=_;rw[p1];exact f1.2 i hi) (by rw[g4];exact p4) ?_,.inl ?_⟩)
    ·by_cases h3:b.phase+1=4
     ·exact .inl (by rw[gp];exact h3)
     ·refine .inr (.inr ⟨h4,?_⟩);rw[g7 (by show(popF (stepF b)).phase+1≠4;rw[Udv];exact h3)];exact p5
    ·rw[g6];show(popF (stepF b)).fuse.t.done=true;rw[p6];exact hd
   ·have hd':(stepF b).fuse.t.done=false:=by simpa using hd
    rw[Ui0 hd'];exact mk _ f1.1 rfl rfl (.inl ⟨Uiz hq f1.2 rfl (.inr (.inl ⟨rfl,rfl⟩)),.inr ⟨hp4,f2⟩⟩)
 ·obtain⟨h4,q,q1,q2,hfu,hv,hw⟩:=hB;have e:goT b.fuse (Uel b) b.mem=U8 ⟨Ua1 ((60:Nat):Int) (2*b.ver) (U0 b.x),⟨(q:Int),Zy 32,false,0⟩⟩ b.mem:=by
   unfold goT;rw[hfu,if_neg (by simp)]
  obtain⟨w1,w2,w3⟩:=Uny (ver:=b.ver) (x:=b.x) hm87 (q:=q) q2;rw[if_neg (by omega)] at w1;by_cases h27:q=27
  ·subst h27;rw[if_neg (by omega)] at w1;have f1:(stepF b).mem=b.mem.set 60 (2*b.ver+2):=by unfold stepF;simp only;rw[e];exact w1
   have hd:(stepF b).fuse.t.done=true:=by unfold stepF;simp only;rw[e];exact w3 rfl
   rw[Uxq hd h4];refine mk _ (by show(stepF b).mem.length=87;rw[f1,List.length_set];exact hm87) rfl rfl (.inl ⟨⟨?_,.inr ⟨b.x,hs.x,.inr rfl,fun j hj=>?_⟩⟩,.inl hd⟩)
   ·show(stepF b).mem.getD 60 0=2*(b.ver+1);rw[f1,Uar _ (by omega)];omega
   ·show(stepF b).mem.getD (61+j) 0=_;rw[f1,Zn _ (by omega)];exact hw j (by omega) hj
  ·rw[if_pos (by omega)] at w1;have f1:(stepF b).mem=b.mem.set (60+q) ((U0 b.x).getD (q-1) 0):=by unfold stepF;simp only;rw[e];exact w1
   have f2:(stepF b).fuse=⟨Ua1 ((60:Nat):Int) (2*b.ver) (U0 b.x),⟨((q+1:Nat):Int),Zy 32,false,0⟩⟩:=by unfold stepF;simp only;rw[e];exact w2 (by omega)
   rw[Ui0 (by rw[f2])];refine mk _ (by rw[f1,List.length_set];exact hm87) rfl rfl (.inr ⟨h4,q+1,by omega,by omega,f2,?_,fun j hj hj2=>?_⟩)
   ·rw[f1,Zn _ (by omega)];exact hv
   ·rw[f1];by_cases hje:j+1=q
    ·subst hje;rw[show 61+j=60+(j+1) by omega,Uar _ (by omega)]
     rfl
    ·rw[Zn _ (by omega)];exact hw j (by omega) hj2
theorem Ul7.turn {n:Int}{b:Bch}(h:Ul7 b)(hs:Ya n b)(p:Int):Ul7 (Uh2 b p):=by
 have h7:=Upb p;unfold Uh2;split
 ·rename_i h4;split
  ·exact h
  ·exact h.pubN h4
 ·rename_i h4;split
  ·exact h.fuseN hs
  ·exact h.read (by omega)
theorem Ul7.plays (ps:List Int):∀{n:Int} {b:Bch},Ul7 b→Ya n b→Ul7 (Uax b ps):=by
 induction ps with
 | nil=>intro n b h _;exact h
 | cons p ps ih=>intro n b h hs;exact ih (h.turn hs p) (hs.turns p)
theorem Ul7.first (ls:List (List (List Int)))(c:Uag)(lag:Int):Ul7 (Y8 ls c lag):=by
 refine⟨Ugw 87,fun k hk=>?_,fun r hr=>?_,rfl,rfl,.inl ⟨⟨rfl,.inl rfl⟩,.inl rfl⟩⟩
 ·rcases (show k=0∨k=1∨k=2∨k=3 by omega) with rfl|rfl|rfl|rfl<;>exact Upi
 ·rcases (show r=0∨r=1 by omega) with rfl|rfl<;>exact Upj
theorem U32 (b:Bch):Uh2 b 6=Udb b 1:=rfl
theorem Uxr (c:Nat):∀(N:Nat) (b:Bch) (T':FT) (m':List Int),b.reads.length=2→b.mem.length=87→Uix (b.reads.getD 1 (Ui [])).code →
  (if (b.reads.getD 1 (Ui [])).t.done then Ui (Uh9 60 26 2) else b.reads.getD 1 (Ui [])).t.done=false →
  Ubb N (if (b.reads.getD 1 (Ui [])).t.done then Ui (Uh9 60 26 2) else b.reads.getD 1 (Ui [])) b.mem=(T',m',c)→T'.t.done=true →
  (Uax b (List.replicate c 6)).reads.getD 1 (Ui [])=T':=by
 induction c with
 | zero =>
  intro N b T' m' _ _ _ hd e hd';cases N with
  | zero=>have e1:_=T':=congrArg Prod.fst e;rw[←e1] at hd';exact absurd hd' (by show ¬(if (b.reads.getD 1 (Ui [])).t.done then Ui (Uh9 60 26 2) else b.reads.getD 1 (Ui [])).t.done=true;rw[hd];simp)
  | succ N=>rw[Ucu hd] at e;have:=congrArg (fun z=>z.2.2) e;simp at this
 | succ c ih =>
  intro N b T' m' hl hm hr hd e hd';cases N with
  | zero=>have:=congrArg (fun z=>z.2.2) e;simp[Ubb] at this
  | succ N =>
   rw[Ucu hd] at e;have hrc:Uix (if (b.reads.getD 1 (Ui [])).t.done then Ui (Uh9 60 26 2) else b.reads.getD 1 (Ui [])).code:=Uts hr (Uiy Uu5);have e1:(Udb b 1).reads.getD 1 (Ui [])=(U8 (if (b.reads.getD 1 (Ui [])).t.done then Ui (Uh9 60 26 2) else b.reads.getD 1 (Ui [])) b.mem).1:=by
    show(b.reads.set 1 _).getD 1 (Ui [])=_;rw[List.getD_eq_getElem?_getD,List.getElem?_set_self (by omega)]
    rfl
   have e2:(Udb b 1).mem=(U8 (if (b.reads.getD 1 (Ui [])).t.done then Ui (Uh9 60 26 2) else b.reads.getD 1 (Ui [])) b.mem).2:=rfl;have e3:(Udb b 1).mem.length=87:=by rw[e2,Uu4 hrc (by omega)];exact hm
   have e4:(Udb b 1).reads.length=2:=by unfold Udb;simp only[List.length_set];exact hl
   have e5:Uix ((Udb b 1).reads.getD 1 (Ui [])).code:=by rw[e1];exact Urm hrc _
   rw[←e1,←e2] at e;show(Uax (Uh2 b 6) (List.replicate c 6)).reads.getD 1 (Ui [])=T';rw[U32];cases hd1:((Udb b 1).reads.getD 1 (Ui [])).t.done
   ·refine ih N (Udb b 1) T' (Ubb N ((Udb b 1).reads.getD 1 (Ui [])) (Udb b 1).mem).2.1 e4 e3 e5 (by rw[hd1];simpa using hd1) ?_ hd';rw[hd1];have x1:=congrArg Prod.fst e;have x2:=congrArg (fun z=>z.2.2) e;simp only at x1 x2;simp only[Bool.false_eq_true,if_false];rw[←x1];refine Prod.ext rfl (Prod.ext rfl ?_);show _=c;omega
   ·rw[Ukn hd1] at e;have c0:c=0:=by have:=congrArg (fun z=>z.2.2) e;simp at this;omega
    subst c0;exact congrArg Prod.fst e
theorem U33 (ls:List (List (List Int)))(h4:ls.length=4)(c:Uag)(lag:Int)(ps:List Int){a:Bch}(ha:a=Uax (Y8 ls c lag) ps)(hd:(a.reads.getD 1 (Ui [])).t.done=true)(hv:a.ver≠0)(hf:¬(a.phase=4∧a.fuse.t.done=false)) :
  ∃x,Ual x∧(a.phase=4∨x=a.x)∧Uhc ((Uax a (List.replicate 28 6)).reads.getD 1 (Ui [])) 26=true∧Uky ((Uax a (List.replicate 28 6)).reads.getD 1 (Ui [])) 26=a.ver∧Ukz ((Uax a (List.replicate 28 6)).reads.getD 1 (Ui [])) 26=U0 x:=by
 have hs0:=Uc4 ls h4 c lag;have hM:Ul7 a:=by rw[ha];exact(Ul7.first ls c lag).plays ps hs0
 have hQ:Ul6 a:=by
  rcases hM.st with ⟨h,_⟩|⟨hp,q,_,_,hfu,_⟩
  ·exact h
  ·exact absurd ⟨hp,by rw[hfu]⟩ hf
 obtain⟨hm60,hx⟩:=hQ;obtain⟨x,hxs,hxp,hxw⟩:∃x,Ual x∧(a.phase=4∨x=a.x)∧U4t a.mem x:=by
  rcases hx with hx|hx
  ·exact absurd hx hv
  ·exact hx
 have hml:=hM.len;have htc:Uh9 60 26 2=Udn ((60:Nat):Int) 26 2:=by
  unfold Uh9;rw[if_pos ⟨by omega,by omega,by omega,by omega,by omega,by omega⟩]
  rfl
 obtain⟨r1,r2,r3,r4,r5,r6⟩:=U16 (b:=60) (n:=26) (k:=2) (by omega) (by omega) (by omega) (by omega) (m:=a.mem) (by omega) (by omega) (by omega);have hst0:(Ui (Udn ((60:Nat):Int) 26 2)).t.done=false:=by rw[Upt (by omega) (by omega) (by omega)];rfl
 have hN:Upr (Ui (Udn ((60:Nat):Int) 26 2)) a.mem 999=Ubb (Ui5 999) (Ui (Uh9 60 26 2)) a.mem:=by
  unfold Upr;rw[Udm (by omega),htc]
 rw[hN] at r1 r2 r3 r4 r5 r6;have hR:=Uxr 28 (Ui5 999) a (Ubb (Ui5 999) (Ui (Uh9 60 26 2)) a.mem).1 (Ubb (Ui5 999) (Ui (Uh9 60 26 2)) a.mem).2.1 hM.rl hml (hM.reads 1 (by omega)) (by rw[hd,if_pos rfl,htc];exact hst0)
  (by rw[hd,if_pos rfl];exact Prod.ext rfl (Prod.ext rfl r3)) r1
 rw[hR];generalize (Ubb (Ui5 999) (Ui (Uh9 60 26 2)) a.mem).1=T at *;have hB:Uhc T 26=true:=Xi ⟨r1,r2,by omega,by omega⟩;refine⟨x,hxs,hxp,hB,?_,?_⟩
 ·unfold Uky;rw[if_pos hB,r4,hm60];omega
 ·unfold Ukz;rw[if_pos hB];have hwl:=Ubv x;refine List.ext_getElem? fun j=>?_
  by_cases hj:j<26
  ·have h1:=r6 j hj;have h2:=hxw j hj;rw[show 60+1+j=61+j by omega] at h1;rw[h2] at h1;rw[List.getElem?_take_of_lt (by show j<(26:Int).toNat;omega),List.getElem?_drop,Xj (by omega),Xj (by omega)];rw[List.getD_eq_getElem?_getD,List.getD_eq_getElem?_getD,Xj (by omega),Xj (by omega)] at h1;exact congrArg some h1
  ·rw[List.getElem?_eq_none (by rw[List.length_take];show min (26:Int).toNat _≤j;omega),List.getElem?_eq_none (by omega)]
end Go.Proofs.YtdaflmjfeoacaaaGreat
