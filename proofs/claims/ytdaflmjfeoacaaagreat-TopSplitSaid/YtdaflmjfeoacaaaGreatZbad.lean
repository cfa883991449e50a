/- Part of the proof of TopTry, TopSplit: NumA, NumB, PlA. Conditions: none. -/
set_option linter.all false
set_option maxHeartbeats 16000000
set_option maxRecDepth 4000
namespace Go.Proofs.YtdaflmjfeoacaaaGreat
def Um (n:Int):Int:=if n < -288230376151711744 then -288230376151711744 else if 288230376151711744<n then 288230376151711744 else n
theorem Uan (n:Int) : -288230376151711744≤Um n∧Um n≤288230376151711744:=by
 unfold Um;split
 ·omega
 ·split<;>omega
theorem Yq {n:Int}(h1 : -288230376151711744≤n)(h2:n≤288230376151711744):Um n=n:=by
 unfold Um;rw[if_neg (by omega),if_neg (by omega)]
def chg (n:Int):Bool:=decide (Um n≠n)
def bsN (z:Int):Nat→Int→Int→Int
 | 0,lo,_=>lo
 | f+1,lo,hi=>if lo<hi then (if (hi-(hi-lo) / 2)*(hi-(hi-lo) / 2)≤z then bsN z f (hi-(hi-lo) / 2) hi else bsN z f lo (hi-(hi-lo) / 2-1)) else lo
theorem U2m (z:Int)(f:Nat):∀lo hi:Int,0≤lo→lo≤hi→hi-lo<2 ^ f→lo*lo≤z→(hi=288230376151711744∨z<(hi+1)*(hi+1)) →
  0≤bsN z f lo hi∧bsN z f lo hi≤hi∧bsN z f lo hi*bsN z f lo hi≤z∧(bsN z f lo hi=288230376151711744∨z<(bsN z f lo hi+1)*(bsN z f lo hi+1)):=by
 induction f with
 | zero =>
  intro lo hi h0 h1 h2 h3 h4;have:lo=hi:=by simp at h2;omega
  subst this;exact⟨h0,h1,h3,h4⟩
 | succ f ih =>
  intro lo hi h0 h1 h2 h3 h4;simp only[bsN];have h2':hi-lo<2*2 ^ f:=by rw[Int.pow_succ] at h2;omega
  split
  ·rename_i hl;generalize hm:hi-(hi-lo) / 2=mid;have hm1:lo<mid:=by omega
   have hm2:mid≤hi:=by omega
   split
   ·rename_i hz;exact ih mid hi (by omega) hm2 (by omega) hz h4
   ·rename_i hz;have h5:=ih lo (mid-1) h0 (by omega) (by omega) h3 (.inr (by rw[show mid-1+1=mid by omega];omega));exact⟨h5.1,by omega,h5.2.2⟩
  ·have:lo=hi:=by omega
   subst this;exact⟨h0,h1,h3,h4⟩
def Uat (z:Int):Int:=bsN z 59 0 288230376151711744
theorem Umz {z:Int}(h:0≤z):0≤Uat z∧Uat z≤288230376151711744∧Uat z*Uat z≤z∧(Uat z=288230376151711744∨z<(Uat z+1)*(Uat z+1)) :=
 U2m z 59 0 288230376151711744 (by omega) (by omega) (by decide) (by omega) (.inl rfl)
def Up5 (n q o:Int):Prop := -n≤2*(o*n-q*4294967296)∧2*(o*n-q*4294967296)≤n
theorem Uoj {n a d:Int}(h1 : -n≤a)(h2:a≤n) (h3 : -n≤2*d)(h4:2*d≤n) : -(n*n)≤2*(a*d)∧2*(a*d)≤n*n:=by
 have e1:=Int.mul_nonneg (show 0≤n-a by omega) (show 0≤n+2*d by omega);have e2:=Int.mul_nonneg (show 0≤n+a by omega) (show 0≤n-2*d by omega);have e3:=Int.mul_nonneg (show 0≤n-a by omega) (show 0≤n-2*d by omega);have e4:=Int.mul_nonneg (show 0≤n+a by omega) (show 0≤n+2*d by omega)
 constructor
 ·grind
 ·grind
theorem U2n {n d:Int}(h3 : -n≤2*d)(h4:2*d≤n):4*(d*d)≤n*n:=by
 have e1:=Int.mul_nonneg (show 0≤n-2*d by omega) (show 0≤n+2*d by omega)
 grind
theorem Y6 {n a:Int}(h0:0≤n)(h:a*a<(n+1)*(n+1)) : -n≤a∧a≤n:=by
 constructor
 ·apply Int.not_lt.1;intro hn;have:=Int.mul_le_mul (show n+1 ≤ -a by omega) (show n+1 ≤ -a by omega) (by omega) (by omega)
  grind
 ·apply Int.not_lt.1;intro hn;have:=Int.mul_le_mul (show n+1≤a by omega) (show n+1≤a by omega) (by omega) (by omega)
  grind
theorem U6 (a:Int):0≤a*a:=by
 rcases Int.le_total 0 a with h|h
 ·exact Int.mul_nonneg h h
 ·have:=Int.mul_nonneg (show 0 ≤ -a by omega) (show 0 ≤ -a by omega);grind
theorem Uja {n x y:Int}(h0:0<n)(h:n*n*x≤n*n*y):x≤y:=Int.le_of_mul_le_mul_left h (Int.mul_pos h0 h0)
theorem U2o {n a b c d o p q r:Int}(h0:2147483648≤n)(h1:n*n≤a*a+b*b+c*c+d*d)(h2:a*a+b*b+c*c+d*d<(n+1)*(n+1))
  (ho:Up5 n a o) (hp:Up5 n b p) (hq:Up5 n c q) (hr:Up5 n d r) :
  (4294967296-256)*(4294967296-256)≤o*o+p*p+q*q+r*r∧o*o+p*p+q*q+r*r<(4294967296+257)*(4294967296+257):=by
 have ga:=U6 a;have gb:=U6 b;have gc:=U6 c;have gd:=U6 d;have ba:=Y6 (n:=n) (a:=a) (by omega) (by omega);have bb:=Y6 (n:=n) (a:=b) (by omega) (by omega);have bc:=Y6 (n:=n) (a:=c) (by omega) (by omega);have bd:=Y6 (n:=n) (a:=d) (by omega) (by omega);unfold Up5 at ho hp hq hr;obtain⟨x,hx⟩:∃x,x=o*n-a*4294967296:=⟨_,rfl⟩;obtain⟨y,hy⟩:∃x,x=p*n-b*4294967296:=⟨_,rfl⟩;obtain⟨z,hz⟩:∃x,x=q*n-c*4294967296:=⟨_,rfl⟩;obtain⟨w,hw⟩:∃x,x=r*n-d*4294967296:=⟨_,rfl⟩;rw[←hx] at ho;rw[←hy] at hp;rw[←hz] at hq;rw[←hw] at hr;have p1:=Uoj ba.1 ba.2 ho.1 ho.2;have p2:=Uoj bb.1 bb.2 hp.1 hp.2;have p3:=Uoj bc.1 bc.2 hq.1 hq.2;have p4:=Uoj bd.1 bd.2 hr.1 hr.2;have s1:=U2n ho.1 ho.2;have s2:=U2n hp.1 hp.2;have s3:=U2n hq.1 hq.2;have s4:=U2n hr.1 hr.2;have t1:=U6 x;have t2:=U6 y;have t3:=U6 z;have t4:=U6 w;have key:n*n*(o*o+p*p+q*q+r*r)=18446744073709551616*(a*a+b*b+c*c+d*d)+4294967296*(2*(a*x)+2*(b*y)+2*(c*z)+2*(d*w))+(x*x+y*y+z*z+w*w):=by
  subst hx hy hz hw;grind
 generalize a*a+b*b+c*c+d*d=S at *;generalize o*o+p*p+q*q+r*r=T at *;have hn:4294967296*n≤2*(n*n):=by
  have:=Int.mul_le_mul_of_nonneg_right h0 (show 0≤n by omega);omega
 have h2':S≤n*n+2*n:=by grind
 clear ga gb gc gd hx hy hz hw h2;have l1:18446744056529682432≤T:=by
  refine Uja (n:=n) (by omega) ?_;rw[key];generalize n*n=N at *;omega
 have l2:T≤18446744073709551616+8*4294967296+1:=by
  refine Uja (n:=n) (by omega) ?_;rw[key];generalize n*n=N at *;omega
 omega
theorem U48 {a b c d w x y z o p q r:Int}
  (h1:(4294967296-256)*(4294967296-256)≤a*a+b*b+c*c+d*d) (h2:a*a+b*b+c*c+d*d<(4294967296+257)*(4294967296+257))
  (h3:(4294967296-256)*(4294967296-256)≤w*w+x*x+y*y+z*z) (h4:w*w+x*x+y*y+z*z<(4294967296+257)*(4294967296+257))
  (s1 : -4294967296≤2*(o*4294967296-(a*w-b*x-c*y-d*z))∧2*(o*4294967296-(a*w-b*x-c*y-d*z))≤4294967296)
  (s2 : -4294967296≤2*(p*4294967296-(a*x+b*w+c*z-d*y))∧2*(p*4294967296-(a*x+b*w+c*z-d*y))≤4294967296)
  (s3 : -4294967296≤2*(q*4294967296-(a*y-b*z+c*w+d*x))∧2*(q*4294967296-(a*y-b*z+c*w+d*x))≤4294967296)
  (s4 : -4294967296≤2*(r*4294967296-(a*z+b*y-c*x+d*w))∧2*(r*4294967296-(a*z+b*y-c*x+d*w))≤4294967296) :
  2147483648*2147483648≤o*o+p*p+q*q+r*r:=by
 have e:(a*w-b*x-c*y-d*z)*(a*w-b*x-c*y-d*z)+(a*x+b*w+c*z-d*y)*(a*x+b*w+c*z-d*y)+(a*y-b*z+c*w+d*x)*(a*y-b*z+c*w+d*x)+(a*z+b*y-c*x+d*w)*(a*z+b*y-c*x+d*w)=(a*a+b*b+c*c+d*d)*(w*w+x*x+y*y+z*z):=by grind
 generalize a*w-b*x-c*y-d*z=A at *;generalize a*x+b*w+c*z-d*y=B at *;generalize a*y-b*z+c*w+d*x=C at *;generalize a*z+b*y-c*x+d*w=D at *;generalize a*a+b*b+c*c+d*d=P at *;generalize w*w+x*x+y*y+z*z=U at *;have u1:P*U≤((4294967296+257)*(4294967296+257))*((4294967296+257)*(4294967296+257)):=Int.mul_le_mul (by omega) (by omega) (by omega) (by omega);have u2:((4294967296-256)*(4294967296-256))*((4294967296-256)*(4294967296-256))≤P*U:=Int.mul_le_mul (by omega) (by omega) (by omega) (by omega);rw[←e] at u1 u2;have gA:=U6 A;have gB:=U6 B;have gC:=U6 C;have gD:=U6 D;have bA:=Y6 (n:=36893488147419103232) (a:=A) (by omega) (by omega);have bB:=Y6 (n:=36893488147419103232) (a:=B) (by omega) (by omega);have bC:=Y6 (n:=36893488147419103232) (a:=C) (by omega) (by omega);have bD:=Y6 (n:=36893488147419103232) (a:=D) (by omega) (by omega);obtain⟨k,hk⟩:∃k,k=o*4294967296-A:=⟨_,rfl⟩;obtain⟨l,hl⟩:∃k,k=p*4294967296-B:=⟨_,rfl⟩;obtain⟨m,hm⟩:∃k,k=q*4294967296-C:=⟨_,rfl⟩;obtain⟨n,hn⟩:∃k,k=r*4294967296-D:=⟨_,rfl⟩;rw[←hk] at s1;rw[←hl] at s2;rw[←hm] at s3;rw[←hn] at s4;have pr:∀{v t:Int},-36893488147419103232≤v→v≤36893488147419103232 → -4294967296≤2*t→2*t≤4294967296 → -(36893488147419103232*4294967296)≤2*(v*t):=by
  intro v t h1 h2 h3 h4;have e3:=Int.mul_nonneg (show 0≤36893488147419103232-v by omega) (show 0≤4294967296-2*t by omega);have e4:=Int.mul_nonneg (show 0≤36893488147419103232+v by omega) (show 0≤4294967296+2*t by omega)
  grind
 have p1:=pr bA.1 bA.2 s1.1 s1.2;have p2:=pr bB.1 bB.2 s2.1 s2.2;have p3:=pr bC.1 bC.2 s3.1 s3.2;have p4:=pr bD.1 bD.2 s4.1 s4.2;have t1:=U6 k;have t2:=U6 l;have t3:=U6 m;have t4:=U6 n;have key:18446744073709551616*(o*o+p*p+q*q+r*r)=(A*A+B*B+C*C+D*D)+(2*(A*k)+2*(B*l)+2*(C*m)+2*(D*n))+(k*k+l*l+m*m+n*n):=by
  subst hk hl hm hn;grind
 omega
structure V3 where
 x:Int
 y:Int
 z:Int
deriving DecidableEq
structure V4 where
 w:Int
 x:Int
 y:Int
 z:Int
deriving DecidableEq
def V3.at (v:V3)(i:Nat):Int:=if i=0 then v.x else if i=1 then v.y else v.z
def V3.list (v:V3):List Int:=[v.x,v.y,v.z]
def V4.list (v:V4):List Int:=[v.w,v.x,v.y,v.z]
def Ubh (a b:Int):Int×Bool:=(Um (Um a+Um b),chg (Um a+Um b)||chg a||chg b)
def Ueh (a b:Int):Int×Bool:=(Um (Um a-Um b),chg (Um a-Um b)||chg a||chg b)
def Uem (a:Int):Int := - Um a
def Uc5 (a:Int):Int:=if Um a<0 then-Um a else Um a
def Ubn (z:Int):Int×Bool:=(Um ((z+2147483648) / 4294967296),chg ((z+2147483648) / 4294967296))
def Uen (a b:Int):Int:=Um a*Um b
def Up (a b:Int):Int×Bool:=((Ubn (Uen a b)).1,(Ubn (Uen a b)).2||(chg a||chg b))
def Ze (x y:Int):Int×Int×Bool:=if x / 4294967296≥y then (0,0,true) else (x*4294967296 / y,x*4294967296 % y,decide (576460752303423488<x*4294967296 / y))
def Y5 (a b:Int):Int×Bool :=
 if Uc5 a=0 then (0,(chg a||chg b)||decide (Uc5 b=0))
 else if Uc5 b=0∧a<0 then (-288230376151711744,true)
 else if Uc5 b=0 then (288230376151711744,true)
 else if (Ze (Uc5 a) (Uc5 b)).2.2 then ((if decide (a<0) != decide (b<0) then -288230376151711744 else 288230376151711744),true)
 else
  let q:=if 2*(Ze (Uc5 a) (Uc5 b)).2.1>Uc5 b∨(2*(Ze (Uc5 a) (Uc5 b)).2.1=Uc5 b∧decide (a<0)=decide (b<0)) then (Ze (Uc5 a) (Uc5 b)).1+1 else (Ze (Uc5 a) (Uc5 b)).1
  let n:=if decide (a<0) != decide (b<0) then -q else q
  (Um n,(chg a||chg b)||chg n)
def Ucd (z:Int):Int×Bool:=if z<0 then (0,true) else if Uat z<288230376151711744 then (Uat z,false) else (Uat z,decide (Uat z*Uat z+576460752303423489≤z))
def Ujt (a:Int):Int×Bool:=((Ucd (Uen a 4294967296)).1,chg a||(Ucd (Uen a 4294967296)).2)
def Uay:List Int→List Int→Int
 | a::l,b::m=>Uen a b+Uay l m
 | _,_=>0
def Ua3 (l:List Int):Bool:=l.any chg
def Urt (l m:List Int):Int×Bool:=((Ubn (Uay l m)).1,(Ubn (Uay l m)).2||Ua3 l||Ua3 m)
def Umg (l:List Int):Int×Bool:=((Ucd (Uay l l)).1,(Ucd (Uay l l)).2||Ua3 l)
def Ucx (f:Nat→Int×Bool):V3×Bool:=(⟨(f 0).1,(f 1).1,(f 2).1⟩,((f 0).2||(f 1).2)||(f 2).2)
def Uev (a b:V3):V3×Bool:=Ucx fun i=>Ueh (a.at i) (b.at i)
def Zb (a:V3)(s:Int):V3×Bool:=Ucx fun i=>Up (a.at i) s
def Ut7 (a b:V3)(i:Nat):Int×Bool :=
 ((Urt [a.at ((i+1) % 3),a.at ((i+2) % 3)] [b.at ((i+2) % 3),Uem (b.at ((i+1) % 3))]).1,
  chg (b.at ((i+1) % 3))||(Urt [a.at ((i+1) % 3),a.at ((i+2) % 3)] [b.at ((i+2) % 3),Uem (b.at ((i+1) % 3))]).2)
def Ubd (a b:V3):V3×Bool:=Ucx (Ut7 a b)
def Uok (a:V3):Int×Bool:=Umg a.list
def Ub5 (a:V3):V3×Bool :=
 if (Uok a).1=0 then (⟨0,0,0⟩,true) else ((Ucx fun i=>Y5 (a.at i) (Uok a).1).1,(Uok a).2||(Ucx fun i=>Y5 (a.at i) (Uok a).1).2)
def U4b:V4:=⟨4294967296,0,0,0⟩
def Umh (q:V4)(i:Nat):List Int :=
 if i=0 then [q.w,Uem q.x,Uem q.y,Uem q.z] else if i=1 then [q.x,q.w,q.z,Uem q.y] else if i=2 then [q.y,Uem q.z,q.w,q.x] else [q.z,q.y,Uem q.x,q.w]
def Uii (p q:V4):V4×Bool :=
 (⟨(Urt p.list (Umh q 0)).1,(Urt p.list (Umh q 1)).1,(Urt p.list (Umh q 2)).1,(Urt p.list (Umh q 3)).1⟩,
  ((((Ua3 p.list||Ua3 q.list)||(Urt p.list (Umh q 0)).2)||(Urt p.list (Umh q 1)).2)||(Urt p.list (Umh q 2)).2)||(Urt p.list (Umh q 3)).2)
def Uf9 (q:V4):V4:=⟨Um q.w,Uem q.x,Uem q.y,Uem q.z⟩
def Zv (q:V4):Int×Bool:=Umg q.list
def Ufy (q:V4):V4×Bool :=
 if (Zv q).1=0 then (U4b,true)
 else (⟨(Y5 q.w (Zv q).1).1,(Y5 q.x (Zv q).1).1,(Y5 q.y (Zv q).1).1,(Y5 q.z (Zv q).1).1⟩,
  ((((Zv q).2||(Y5 q.w (Zv q).1).2)||(Y5 q.x (Zv q).1).2)||(Y5 q.y (Zv q).1).2)||(Y5 q.z (Zv q).1).2)
def Ucy (v:V3):V4×Bool :=
 let q:V4:=⟨4294967296,(Up v.x 2147483648).1,(Up v.y 2147483648).1,(Up v.z 2147483648).1⟩
 ((Ufy q).1,(((Up v.x 2147483648).2||(Up v.y 2147483648).2)||(Up v.z 2147483648).2)||(Ufy q).2)
def Usb (q:V4)(v:V3):V3×Bool :=
 let a:=Uii q ⟨0,v.x,v.y,v.z⟩
 let b:=Uii a.1 (Uf9 q)
 (⟨b.1.x,b.1.y,b.1.z⟩,a.2||b.2)
structure Pos where
 q:V4
 w:V3
 bad:Bool
deriving DecidableEq
def Uce (p:Pos):Prop:=(Zv p.q).2=false∧4294967040≤(Zv p.q).1∧(Zv p.q).1≤4294967552∧Ua3 p.w.list=false
instance (p:Pos):Decidable (Uce p):=by unfold Uce;exact inferInstance
def Uew:Pos:=⟨U4b,⟨0,0,0⟩,false⟩
def Yb (p:Pos):Pos:=if Uce p then p else { Uew with bad:=true }
def byP (p:Pos)(v:V3):Pos :=
 let s:=Ucy v
 let m:=Uii p.q s.1
 let u:=Ufy m.1
 { p with q:=u.1,bad:=((p.bad||s.2)||m.2)||u.2 }
def upP (p:Pos):V3:=(Usb (Uf9 (Yb p).q) ⟨0,0,4294967296⟩).1
def Up6 (p0:Pos)(v:V3)(dt:Int):Pos :=
 let p:=Yb p0
 if Ua3 v.list=true∨dt<0∨68719476736<dt then { p with bad:=true }
 else
  let d:=Uev v p.w
  let s:=Zb d.1 dt
  byP { p with bad:=(p.bad||d.2)||s.2 } s.1
def Udh (p0:Pos)(a:V3)(gain:Int):Pos :=
 let p:=Yb p0
 if Ua3 a.list=true∨gain<0∨4294967296<gain then { p with bad:=true }
 else if (Ub5 a).2 then p
 else
  let c:=Ubd (Ub5 a).1 (upP p)
  let g:=Zb c.1 gain
  let h:=Zb g.1 268435456
  let w:=Uev p.w h.1
  byP { p with w:=w.1,bad:=(((p.bad||c.2)||g.2)||h.2)||w.2 } g.1
structure Ul8 where
 bias:V3
 gain:Int
 max:Int
deriving DecidableEq
def Uij (c:Ul8):Prop:=Ua3 c.bias.list=false∧chg c.gain=false∧0<c.gain∧chg c.max=false∧0≤c.max
instance (c:Ul8):Decidable (Uij c):=by unfold Uij;exact inferInstance
def U49 (c:Ul8)(n:Int):Bool:=decide (c.max<n)||decide (n < -c.max)
def Uju (c:Ul8)(v:V3):V3×Bool :=
 let d:=Uev v c.bias
 let r:=Zb d.1 c.gain
 if Uij c∧d.2=false∧r.2=false∧(r.1.list.any (U49 c))=false then (r.1,true) else (⟨0,0,0⟩,false)
structure Axs where
 p:Int
 v:Int
 pp:Int
 pv:Int
 vv:Int
 bad:Bool
deriving DecidableEq
def Z0 (n:Int):Prop:=4096≤n∧n≤4503599627370496
instance (n:Int):Decidable (Z0 n):=by unfold Z0;exact inferInstance
def Zg (x:Axs):Prop:=chg x.p=false∧chg x.v=false∧chg x.pv=false∧Z0 x.pp∧Z0 x.vv
instance (x:Axs):Decidable (Zg x):=by unfold Zg;exact inferInstance
def Ueb (p v:Int):Axs:=⟨Um p,Um v,17592186044416,0,17592186044416,chg p||chg v⟩
def Uj (x:Axs):Axs:=if Zg x then x else { Ueb 0 0 with bad:=true }
def Yh (n:Int):Int:=if n≤4096 then 4096 else if 4503599627370496≤n then 4503599627370496 else n
def Udk (x:Axs)(f:Bool):Axs :=
 { x with pp:=Yh x.pp,vv:=Yh x.vv,bad:=((x.bad||f)||decide (Yh x.pp≠x.pp))||decide (Yh x.vv≠x.vv) }
def Zl (x0:Axs)(a dt q:Int):Axs :=
 let o:=Uj x0
 if chg a=true∨dt<0∨1099511627776<dt∨q<0∨1099511627776<q then { o with bad:=true }
 else
  let u:=Up o.vv dt
  let t1:=Up o.v dt
  let p:=Ubh o.p t1.1
  let t2:=Up a dt
  let v:=Ubh o.v t2.1
  let t3:=Up o.pv (2*dt)
  let s3:=Ubh o.pp t3.1
  let t4:=Up u.1 dt
  let pp:=Ubh s3.1 t4.1
  let pv:=Ubh o.pv u.1
  let t5:=Up q dt
  let vv:=Ubh o.vv t5.1
  Udk ⟨p.1,v.1,pp.1,pv.1,vv.1,o.bad⟩ (u.2||t1.2||p.2||t2.2||v.2||t3.2||s3.2||t4.2||pp.2||pv.2||t5.2||vv.2)
def Yi (x0:Axs)(z r gate:Int):Axs×Bool :=
 let o:=Uj x0
 if chg z=true∨¬Z0 r∨gate<0∨1099511627776<gate then ({ o with bad:=true },false)
 else
  let y:=Ueh z o.p
  let s:=Ubh o.pp r
  if (Up gate (Ujt s.1).1).1<Uc5 y.1 then (o,false)
  else
   let k:=Y5 o.pp s.1
   let l:=Y5 o.pv s.1
   let t1:=Up k.1 y.1
   let p:=Ubh o.p t1.1
   let t2:=Up l.1 y.1
   let v:=Ubh o.v t2.1
   let t3:=Up k.1 o.pp
   let pp:=Ueh o.pp t3.1
   let t4:=Up l.1 o.pv
   let vv:=Ueh o.vv t4.1
   let t5:=Up k.1 o.pv
   let pv:=Ueh o.pv t5.1
   (Udk ⟨p.1,v.1,pp.1,pv.1,vv.1,o.bad⟩ (y.2||s.2||k.2||l.2||t1.2||p.2||t2.2||v.2||t3.2||pp.2||t4.2||vv.2||t5.2||pv.2),true)
theorem Ubx (n:Int):chg (Um n)=false:=by
 have:=Uan n;unfold chg;rw[Yq this.1 this.2];simp
theorem Uuv {n:Int}(h1 : -288230376151711744≤n)(h2:n≤288230376151711744):chg n=false:=by
 unfold chg;rw[Yq h1 h2];simp
theorem Uuw {n:Int}(h:chg n=false):Um n=n:=by simpa [chg] using h
theorem Ud8 (n:Int):Z0 (Yh n):=by
 unfold Yh Z0;split
 ·omega
 ·split<;>omega
theorem Unr (x:Axs):Zg (Uj x):=by
 unfold Uj;split
 ·assumption
 ·decide
theorem Ufa (x:Axs)(a dt q:Int):Zg (Zl x a dt q):=by
 have h:=Unr x;unfold Zl;dsimp only;split
 ·exact⟨h.1,h.2.1,h.2.2.1,h.2.2.2.1,h.2.2.2.2⟩
 ·exact⟨Ubx _,Ubx _,Ubx _,Ud8 _,Ud8 _⟩
theorem Ud9 (x:Axs)(z r gate:Int):Zg (Yi x z r gate).1:=by
 have h:=Unr x;unfold Yi;dsimp only;split
 ·exact⟨h.1,h.2.1,h.2.2.1,h.2.2.2.1,h.2.2.2.2⟩
 ·split
  ·exact h
  ·exact⟨Ubx _,Ubx _,Ubx _,Ud8 _,Ud8 _⟩
def sqQ (q:V4):Int:=q.w*q.w+q.x*q.x+q.y*q.y+q.z*q.z
def Uj2 (q:V4):Prop:=(4294967296-256)*(4294967296-256)≤sqQ q∧sqQ q<(4294967296+257)*(4294967296+257)
theorem Ul3 {a B:Int}(h1 : -B≤a)(h2:a≤B):a*a≤B*B:=by
 have:=Int.mul_nonneg (show 0≤B-a by omega) (show 0≤B+a by omega)
 grind
theorem Z6 {a b B:Int}(h1 : -B≤a)(h2:a≤B) (h3 : -B≤b)(h4:b≤B) : -(B*B)≤a*b∧a*b≤B*B:=by
 have e1:=Int.mul_nonneg (show 0≤B-a by omega) (show 0≤B+b by omega);have e2:=Int.mul_nonneg (show 0≤B+a by omega) (show 0≤B-b by omega);have e3:=Int.mul_nonneg (show 0≤B-a by omega) (show 0≤B-b by omega);have e4:=Int.mul_nonneg (show 0≤B+a by omega) (show 0≤B+b by omega)
 constructor<;>grind
theorem U3n {q:V4}{n:Int}(h0:0≤n)(h:sqQ q<(n+1)*(n+1)):(-n≤q.w∧q.w≤n)∧(-n≤q.x∧q.x≤n)∧(-n≤q.y∧q.y≤n)∧(-n≤q.z∧q.z≤n):=by
 have g1:=U6 q.w;have g2:=U6 q.x;have g3:=U6 q.y;have g4:=U6 q.z;unfold sqQ at h;exact⟨Y6 h0 (by omega),Y6 h0 (by omega),Y6 h0 (by omega),Y6 h0 (by omega)⟩
theorem U8x {a b c d:Int}(ha:chg a=false)(hb:chg b=false)(hc:chg c=false)(hd:chg d=false):Ua3 [a,b,c,d]=false:=by simp[Ua3,ha,hb,hc,hd]
theorem U3o {a b c d:Int}(h:Ua3 [a,b,c,d]=false):chg a=false∧chg b=false∧chg c=false∧chg d=false:=by
 simp[Ua3] at h;exact h
theorem Urb {q:V4}(h:Ua3 q.list=false):Uay q.list q.list=sqQ q:=by
 obtain⟨h1,h2,h3,h4⟩:=U3o h;unfold sqQ V4.list;simp only[Uay,Uen,Uuw h1,Uuw h2,Uuw h3,Uuw h4];omega
theorem Uns {q:V4}(h:sqQ q<288230376151711744*288230376151711744):Ua3 q.list=false∧Zv q=(Uat (sqQ q),false)∧0≤Uat (sqQ q)∧Uat (sqQ q)*Uat (sqQ q)≤sqQ q∧sqQ q<(Uat (sqQ q)+1)*(Uat (sqQ q)+1):=by
 obtain⟨⟨a1,a2⟩,⟨b1,b2⟩,⟨c1,c2⟩,d1,d2⟩:=U3n (q:=q) (n:=288230376151711743) (by omega) h;have hc:Ua3 q.list=false:=U8x (Uuv (by omega) (by omega)) (Uuv (by omega) (by omega)) (Uuv (by omega) (by omega)) (Uuv (by omega) (by omega));have g1:=U6 q.w;have g2:=U6 q.x;have g3:=U6 q.y;have g4:=U6 q.z;have h0:0≤sqQ q:=by unfold sqQ;omega
 obtain⟨r1,r2,r3,r4⟩:=Umz h0;have r5:Uat (sqQ q)<288230376151711744:=by
  rcases Int.lt_or_le (Uat (sqQ q)) 288230376151711744 with hh|hh
  ·exact hh
  ·exfalso
   have e:Uat (sqQ q)=288230376151711744:=by omega
   rw[e] at r3;omega
 refine⟨hc,?_,r1,r3,by rcases r4 with r4|r4<;>omega⟩;unfold Zv Umg Ucd;rw[Urb hc,if_neg (by omega),if_pos r5,hc]
 rfl
theorem U07 {q:V4}(h:Uj2 q):(Zv q).2=false∧4294967040≤(Zv q).1∧(Zv q).1≤4294967552:=by
 obtain⟨h1,h2⟩:=h;obtain⟨hc,e,r0,r1,r2⟩:=Uns (q:=q) (by omega);rw[e];generalize Uat (sqQ q)=r at *;generalize sqQ q=S at *;refine⟨rfl,?_,?_⟩
 ·apply Int.not_lt.1;intro hn;simp only at hn;have:=Int.mul_le_mul (show r+1≤4294967040 by omega) (show r+1≤4294967040 by omega) (by omega) (by omega);omega
 ·apply Int.not_lt.1;intro hn;simp only at hn;have:=Int.mul_le_mul (show 4294967553≤r by omega) (show 4294967553≤r by omega) (by omega) (by omega);omega
theorem U6h {q:V4}(h:(Zv q).2=false)(h1:4294967040≤(Zv q).1)(h2:(Zv q).1≤4294967552):Uj2 q:=by
 have hc:Ua3 q.list=false:=by
  unfold Zv Umg at h;simp only[Bool.or_eq_false_iff] at h;exact h.2
 have e:(Zv q).1=(Ucd (sqQ q)).1:=by unfold Zv Umg;rw[Urb hc]
 have g1:=U6 q.w;have g2:=U6 q.x;have g3:=U6 q.y;have g4:=U6 q.z;have h0:0≤sqQ q:=by unfold sqQ;omega
 have e2:(Zv q).1=Uat (sqQ q):=by
  rw[e];unfold Ucd;rw[if_neg (by omega)];split<;>rfl
 rw[e2] at h1 h2;obtain⟨r1,r2,r3,r4⟩:=Umz h0;generalize Uat (sqQ q)=r at *;unfold Uj2;generalize sqQ q=S at *;have r5:S<(r+1)*(r+1):=by rcases r4 with r4|r4<;>omega
 have k1:=Int.mul_le_mul h1 h1 (by omega) (by omega);have k2:=Int.mul_le_mul (show r+1≤4294967553 by omega) (show r+1≤4294967553 by omega) (by omega) (by omega);omega
theorem Uh3 {n a:Int}(h0:0<n)(hn:n≤288230376151711744) (h1 : -n≤a)(h2:a≤n):Up5 n a (Y5 a n).1:=by
 have ca:Um a=a:=Yq (by omega) (by omega);have cn:Um n=n:=Yq (by omega) (by omega);have an:Uc5 n=n:=by unfold Uc5;rw[cn,if_neg (by omega)]
 have aa:Uc5 a=if a<0 then -a else a:=by unfold Uc5;rw[ca]
 have sn:decide (n<0)=false:=decide_eq_false (by omega);unfold Y5;rw[an,aa];generalize hx:(if a<0 then -a else a)=x;have hx0:0≤x:=by rw[←hx];split<;>omega
 have hxn:x≤n:=by rw[←hx];split<;>omega
 by_cases hz:x=0
 ·rw[if_pos hz];have:a=0:=by rw[hz] at hx;split at hx<;>omega
  subst this;unfold Up5;simp only;omega
 ·rw[if_neg hz,if_neg (by omega),if_neg (by omega)];have hq:Ze x n=(x*4294967296 / n,x*4294967296 % n,decide (576460752303423488<x*4294967296 / n)):=by
   unfold Ze;rw[if_neg (by omega)]
  have hle:x*4294967296 / n≤4294967296:=by
   have:x*4294967296 / n≤n*4294967296 / n:=Int.ediv_le_ediv h0 (by omega)
   rwa [Int.mul_ediv_cancel_left _ (by omega)] at this
  have hnn:0≤x*4294967296 / n:=Int.ediv_nonneg (by omega) (by omega);have hde:=Int.mul_ediv_add_emod (x*4294967296) n;have hm0:=Int.emod_nonneg (x*4294967296) (show n≠0 by omega);have hm1:=Int.emod_lt_of_pos (x*4294967296) h0;rw[hq];simp only;generalize x*4294967296 / n=Q at *;generalize x*4294967296 % n=R at *;rw[if_neg (by rw[decide_eq_true_iff];omega),sn];have hmul:(Q+1)*n=n*Q+n:=by grind
  have hmul0:Q*n=n*Q:=Int.mul_comm _ _;have key:∀q:Int,(q=Q+1∧n≤2*R∨q=Q∧2*R≤n)→0≤q∧q≤4294967297 ∧ -n≤2*(q*n-x*4294967296)∧2*(q*n-x*4294967296)≤n:=by
   rintro q (⟨rfl,hh⟩|⟨rfl,hh⟩)
   ·rw[hmul];generalize n*Q=z at *;refine⟨?_,?_,?_,?_⟩<;>omega
   ·rw[hmul0];generalize n*q=z at *;refine⟨?_,?_,?_,?_⟩<;>omega
  generalize hqq:(if 2*R>n∨2*R=n∧decide (a<0)=false then Q+1 else Q)=q;have hk:=key q (by rw[←hqq];split<;>omega);obtain⟨k1,k2,k3,k4⟩:=hk;unfold Up5;by_cases hs:a<0
  ·rw[if_pos hs] at hx;have e:(decide (a<0) != false)=true:=by simp[hs]
   rw[if_pos e,Yq (by omega) (by omega)];subst hx;have e2 : -q*n-a*4294967296 = -(q*n - -a*4294967296):=by grind
   rw[e2];generalize q*n - -a*4294967296=z at *;omega
  ·rw[if_neg hs] at hx;have e:¬(decide (a<0) != false)=true:=by simp[hs]
   rw[if_neg e,Yq (by omega) (by omega)];subst hx;exact⟨k3,k4⟩
theorem Urc {q:V4}(h1:2147483648*2147483648≤sqQ q)(h2:sqQ q<288230376151711744*288230376151711744):Uj2 (Ufy q).1:=by
 obtain⟨hc,e,r0,r1,r2⟩:=Uns h2;have hcs:=U3n (q:=q) (n:=Uat (sqQ q)) r0 r2;have hn:2147483648≤Uat (sqQ q):=by
  apply Int.not_lt.1;intro hn;have:=Int.mul_le_mul (show Uat (sqQ q)+1≤2147483648 by omega) (show Uat (sqQ q)+1≤2147483648 by omega) (by omega) (by omega);omega
 have hx:Uat (sqQ q)≤288230376151711744:=by
  apply Int.not_lt.1;intro hn;have:=Int.mul_le_mul (show 288230376151711744≤Uat (sqQ q) by omega) (show 288230376151711744≤Uat (sqQ q) by omega) (by omega) (by omega);omega
 unfold Ufy;rw[e];simp only;rw[if_neg (by omega)];unfold Uj2;have hu:=fun o p r s=>U2o (n:=Uat (sqQ q)) (a:=q.w) (b:=q.x) (c:=q.y) (d:=q.z) (o:=o) (p:=p) (q:=r) (r:=s) hn (by unfold sqQ at r1 ⊢;exact r1) (by unfold sqQ at r2 ⊢;exact r2)
 have:=hu _ _ _ _ (Uh3 (by omega) hx hcs.1.1 hcs.1.2) (Uh3 (by omega) hx hcs.2.1.1 hcs.2.1.2) (Uh3 (by omega) hx hcs.2.2.1.1 hcs.2.2.1.2) (Uh3 (by omega) hx hcs.2.2.2.1 hcs.2.2.2.2);exact this
theorem Uiv (a:Int) : -144115188075855873≤(Up a 2147483648).1∧(Up a 2147483648).1≤144115188075855873:=by
 have:=Uan a;unfold Up Ubn Uen;simp only;rw[Yq (n:=2147483648) (by omega) (by omega)];generalize Um a=b at *;rw[Yq (by omega) (by omega)];omega
theorem Uxc (v:V3):Uj2 (Ucy v).1:=by
 have hx:=Uiv v.x;have hy:=Uiv v.y;have hz:=Uiv v.z;unfold Ucy;dsimp only;generalize (Up v.x 2147483648).1=x at *;generalize (Up v.y 2147483648).1=y at *;generalize (Up v.z 2147483648).1=z at *;have s1:=Ul3 hx.1 hx.2;have s2:=Ul3 hy.1 hy.2;have s3:=Ul3 hz.1 hz.2;have g2:=U6 x;have g3:=U6 y;have g4:=U6 z;refine Urc ?_ ?_
 ·unfold sqQ;simp only;omega
 ·unfold sqQ;simp only;omega
theorem Ufv {z:Int}(h1 : -590295810358705651712≤z)(h2:z≤590295810358705651712) :
  (-4294967296≤2*((Ubn z).1*4294967296-z)∧2*((Ubn z).1*4294967296-z)≤4294967296) ∧ -137438953473≤(Ubn z).1∧(Ubn z).1≤137438953473:=by
 unfold Ubn;simp only;rw[Yq (by omega) (by omega)];omega
theorem U3p {p q:V4}(hp:Uj2 p)(hq:Uj2 q):Uj2 (Ufy (Uii p q).1).1:=by
 have cp:=U3n (q:=p) (n:=8589934592) (by omega) (by have:=hp.2;omega);have cq:=U3n (q:=q) (n:=8589934592) (by omega) (by have:=hq.2;omega);obtain⟨hp1,hp2⟩:=hp;obtain⟨hq1,hq2⟩:=hq;obtain⟨a,b,c,d⟩:=p;obtain⟨w,x,y,z⟩:=q;simp only[sqQ] at cp cq hp1 hp2 hq1 hq2;obtain⟨⟨a1,a2⟩,⟨b1,b2⟩,⟨c1,c2⟩,d1,d2⟩:=cp;obtain⟨⟨w1,w2⟩,⟨x1,x2⟩,⟨y1,y2⟩,z1,z2⟩:=cq;have ca:Um a=a:=Yq (by omega) (by omega);have cb:Um b=b:=Yq (by omega) (by omega);have cc:Um c=c:=Yq (by omega) (by omega);have cd:Um d=d:=Yq (by omega) (by omega);have cw:Um w=w:=Yq (by omega) (by omega);have cx:Um x=x:=Yq (by omega) (by omega);have cy:Um y=y:=Yq (by omega) (by omega);have cz:Um z=z:=Yq (by omega) (by omega);have cnx:Um (-x) = -x:=Yq (by omega) (by omega);have cny:Um (-y) = -y:=Yq (by omega) (by omega);have cnz:Um (-z) = -z:=Yq (by omega) (by omega);have m0:Uay [a,b,c,d] (Umh ⟨w,x,y,z⟩ 0)=a*w-b*x-c*y-d*z:=by
  simp only[Umh,if_pos,Uay,Uen,Uem,ca,cb,cc,cd,cw,cx,cy,cz,cnx,cny,cnz];grind
 have m1:Uay [a,b,c,d] (Umh ⟨w,x,y,z⟩ 1)=a*x+b*w+c*z-d*y:=by
  simp only[Umh,if_pos,if_neg (show ¬(1=0) by omega),Uay,Uen,Uem,ca,cb,cc,cd,cw,cx,cy,cz,cnx,cny,cnz];grind
 have m2:Uay [a,b,c,d] (Umh ⟨w,x,y,z⟩ 2)=a*y-b*z+c*w+d*x:=by
  simp only[Umh,if_pos,if_neg (show ¬(2=0) by omega),if_neg (show ¬(2=1) by omega),Uay,Uen,Uem,ca,cb,cc,cd,cw,cx,cy,cz,cnx,cny,cnz];grind
 have m3:Uay [a,b,c,d] (Umh ⟨w,x,y,z⟩ 3)=a*z+b*y-c*x+d*w:=by
  simp only[Umh,if_neg (show ¬(3=0) by omega),if_neg (show ¬(3=1) by omega),if_neg (show ¬(3=2) by omega),Uay,Uen,Uem,ca,cb,cc,cd,cw,cx,cy,cz,cnx,cny,cnz];grind
 have paw:=Z6 a1 a2 w1 w2;have pax:=Z6 a1 a2 x1 x2;have pay:=Z6 a1 a2 y1 y2;have paz:=Z6 a1 a2 z1 z2;have pbw:=Z6 b1 b2 w1 w2;have pbx:=Z6 b1 b2 x1 x2;have pby:=Z6 b1 b2 y1 y2;have pbz:=Z6 b1 b2 z1 z2;have pcw:=Z6 c1 c2 w1 w2;have pcx:=Z6 c1 c2 x1 x2;have pcy:=Z6 c1 c2 y1 y2;have pcz:=Z6 c1 c2 z1 z2;have pdw:=Z6 d1 d2 w1 w2;have pdx:=Z6 d1 d2 x1 x2;have pdy:=Z6 d1 d2 y1 y2;have pdz:=Z6 d1 d2 z1 z2;have r0:=Ufv (z:=a*w-b*x-c*y-d*z) (by omega) (by omega);have r1:=Ufv (z:=a*x+b*w+c*z-d*y) (by omega) (by omega);have r2:=Ufv (z:=a*y-b*z+c*w+d*x) (by omega) (by omega);have r3:=Ufv (z:=a*z+b*y-c*x+d*w) (by omega) (by omega);have hb:=U48 (a:=a) (b:=b) (c:=c) (d:=d) (w:=w) (x:=x) (y:=y) (z:=z) hp1 hp2 hq1 hq2 r0.1 r1.1 r2.1 r3.1;unfold Uii Urt V4.list;simp only;rw[m0,m1,m2,m3];have s0:=Ul3 r0.2.1 r0.2.2;have s1:=Ul3 r1.2.1 r1.2.2;have s2:=Ul3 r2.2.1 r2.2.2;have s3:=Ul3 r3.2.1 r3.2.2;refine Urc ?_ ?_
 ·unfold sqQ;simp only;exact hb
 ·unfold sqQ;simp only;omega
theorem Unt {p:Pos}:Uce (Yb p):=by
 unfold Yb;split
 ·assumption
 ·decide
theorem Uce.near {p:Pos}(h:Uce p):Uj2 p.q:=U6h h.1 h.2.1 h.2.2.1
theorem U08 {p:Pos}(hq:Uj2 p.q)(hw:Ua3 p.w.list=false)(v:V3):Uce (byP p v):=by
 have:=U07 (U3p hq (Uxc v));exact⟨this.1,this.2.1,this.2.2,hw⟩
theorem U3q {q:V4}{w:V3}{b:Bool}(hq:Uj2 q)(hw:Ua3 w.list=false)(v:V3):Uce (byP ⟨q,w,b⟩ v):=U08 hq hw v
theorem U09 (p:Pos)(v:V3)(dt:Int):Uce (Up6 p v dt):=by
 have h:=Unt (p:=p);unfold Up6;dsimp only;split
 ·exact⟨h.1,h.2.1,h.2.2.1,h.2.2.2⟩
 ·exact U08 h.near h.2.2.2 _
theorem U3r (a b:V3):Ua3 (Uev a b).1.list=false:=by
 unfold Uev Ucx V3.list Ueh;simp[Ua3,Ubx]
theorem Uxd (p:Pos)(a:V3)(gain:Int):(∃b,Udh p a gain={ Yb p with bad:=b })∨∃h b g,Udh p a gain=byP ⟨(Yb p).q,(Uev (Yb p).w h).1,b⟩ g:=by
 unfold Udh;dsimp only;generalize Yb p=k;split
 ·exact Or.inl ⟨_,rfl⟩
 ·split
  ·exact Or.inl ⟨k.bad,rfl⟩
  ·exact Or.inr ⟨_,_,_,rfl⟩
theorem Uxe (p:Pos)(a:V3)(gain:Int):Uce (Udh p a gain):=by
 have h:=Unt (p:=p);rcases Uxd p a gain with ⟨b,e⟩|⟨u,b,g,e⟩
 ·rw[e];exact⟨h.1,h.2.1,h.2.2.1,h.2.2.2⟩
 ·rw[e];exact U3q h.near (U3r _ _) _
end Go.Proofs.YtdaflmjfeoacaaaGreat
