/- Part of the proof of TopTry, TopSplit: MeB, MeC, RgI. Conditions: none. -/
import Derived.Test.YtdaflmjfeoacaaaGreatZbay
import Derived.Test.YtdaflmjfeoacaaaGreatZbav
import Derived.Test.YtdaflmjfeoacaaaGreatZbaw
import Derived.Test.YtdaflmjfeoacaaaGreatZbal
set_option linter.all false
set_option maxHeartbeats 16000000
set_option maxRecDepth 4000
namespace Go.Proofs.YtdaflmjfeoacaaaGreat
open Tryz
open Go.RowKit
theorem Chg.cell {X:Nat→Prop}{w w':World}(h:Chg X w w'){p:Addr}(hp:p.block<w.heap.size)(hx:¬X p.block):w'.cell? p=w.cell? p:=World.cell?_of_block (w:=w) (h.block p.block hp hx)
def Ud0 (X:Nat→Prop)(v:Value):Prop:=∀a n c,v = .slice (some a) n c→0<n→¬X a.block
theorem Sl.chg {X:Nat→Prop}{w w':World}{v:Value}{size n:Nat}{xs:List Value}(h:Sl w v size n xs)(ho:Ud0 X v)(hc:Chg X w w'):Sl w' v size n xs:=by
 obtain⟨hl,A,c,e,h1,h2,h0,h3⟩:=h;refine⟨hl,A,c,e,h1,h2,h0,fun hn=>?_⟩;obtain⟨ad,ha,hb,hcell⟩:=h3 hn;subst ha;exact⟨ad,rfl,by have:=hc.size;omega,fun j u hu=>(hc.cell (by rw[Ugt];exact hb) (by rw[Ugt];exact ho ad n c e hn)).trans (hcell j u hu)⟩
theorem Ud0.nil (X:Nat→Prop)(n c:Nat):Ud0 X (.slice none n c):=fun a n c h _=>by cases h
theorem Ud0.own {X:Nat→Prop}{w:World}{base:Nat}{e:TypeId}{sz n:Nat}{v:Value}{xs:List Value}(h:w.ownsRow base e sz v n xs)(hX:∀k,X k→k<base):Ud0 X v:=fun a m c hv _ hx=>by
 subst hv;have:=h.lt a.block (by simp[Value.ownBlock]);have:=hX _ hx;omega
theorem Ud0.mono {X Y:Nat→Prop}{v:Value}(h:Ud0 X v)(hY:∀k,Y k→X k):Ud0 Y v:=fun a n c e hn hy=>h a n c e hn (hY _ hy)
def sml (s:Smp):List Value:=s.cells.toList
def SmX (X:Nat→Prop)(w:World)(v:Value)(l:List Smp):Prop:=Sl w v 5 l.length (l.flatMap sml)∧Ud0 X v
section
variable {X:Nat→Prop} {w w':World} {v:Value} {l:List Smp}
theorem SmX.chg (h:SmX X w v l)(hc:Chg X w w'):SmX X w' v l:=⟨h.1.chg h.2 hc,h.2⟩
theorem SmX.below (h:SmX X w v l)(hb:Below w.heap.size w w'):SmX X w' v l:=h.chg (Chg.of hb)
theorem SmX.low (h:SmX X w v l):SmX (fun k=>X k∨w.heap.size≤k) w v l:=⟨h.1,fun a n c e hn hx=>by
 obtain⟨_,A',c',e',_,_,_,h3⟩:=h.1;rw[e] at e';injection e' with e1 e2 _
 subst e1 e2;obtain⟨ad,ha,hb,_⟩:=h3 hn;injection ha with ha
 subst ha;rcases hx with hx|hx
 ·exact h.2 _ _ _ e hn hx
 ·omega⟩
theorem SmX.mono {Y:Nat→Prop}(h:SmX X w v l)(hY:∀k,Y k→X k):SmX Y w v l:=⟨h.1,h.2.mono hY⟩
theorem SmX.nil (X:Nat→Prop)(w:World):SmX X w (.slice none 0 0) []:=⟨Sl.nil w 5,Ud0.nil _ _ _⟩
theorem U23 (l:List Smp):(l.flatMap sml).length=l.length*5:=by
 induction l with
 | nil=>rfl
 | cons x l ih=>rw[List.flatMap_cons,List.length_append,ih];simp[sml,Smp.cells];omega
theorem Uoz (l:List Smp):∀u∈l.flatMap sml,u.oneCell'=true:=by
 intro u hu;obtain⟨s,_,h⟩:=List.mem_flatMap.1 hu;simp[sml,Smp.cells] at h;rcases h with h|h|h|h|h<;>subst h<;>rfl
theorem SmX.at_ {A:Option Addr}{n c k:Nat}{s:Smp}(h:SmX X w (.slice A n c) l)(hk:l[k]? = Option.some s):∃b off,A=some ⟨b,off,none⟩∧b<w.heap.size∧n=l.length∧w.rangeAt b (off+k*5) (sml s):=by
 have hn:n=l.length:=by
  obtain⟨_,A',c',e,_⟩:=h.1;injection e
 subst hn;obtain⟨hkl,hs⟩:=List.getElem?_eq_some_iff.1 hk;obtain⟨b,off,rfl,hb,hc⟩:=Sl.at_ h.1 (by omega) (by omega);refine⟨b,off,rfl,hb,rfl,fun j u hu=>?_⟩;have hj:j<5:=by have:=(List.getElem?_eq_some_iff.1 hu).1;simpa [sml,Smp.cells] using this
 have hg:=Ufi sml 5 l (fun _ _=>rfl) k j hkl hj;rw[Nat.add_assoc];exact hc (k*5+j) u (by rw[hg,hs];exact hu)
theorem SmX.drop (h:SmX X w v l)(hl:0<l.length):∃b off c,v = .slice (some ⟨b,off,none⟩) l.length c∧l.length≤c∧c≤maxLen∧(∀m c',¬X b→Ud0 X (.slice (some ⟨b,off+5,none⟩) m c'))∧¬X b∧(l.length≤c→SmX X w (.slice (some ⟨b,off+5,none⟩) (l.length-1) (c-1)) (l.drop 1)):=by
 obtain⟨A,c,rfl,h1,h2,_⟩:=h.1.form;obtain⟨b,off,rfl,hb,hc⟩:=Sl.at_ h.1 (by omega) (by omega);have hX:¬X b:=h.2 _ _ _ rfl hl;have hoff:∀m c',Ud0 X (.slice (some ⟨b,off+5,none⟩) m c'):=fun m c' a n' c'' e _ hx=>by
  injection e with e1 e2 e3
  injection e1 with e1
  subst e1;exact hX hx
 refine⟨b,off,c,rfl,h1,h2,fun m c' _=>hoff m c',hX,fun _=>⟨⟨?_,_,_,by rw[List.length_drop],by rw[List.length_drop];omega,by omega,fun e=>(by cases e),fun _=>⟨_,rfl,hb,fun j u hu=>?_⟩⟩,hoff _ _⟩⟩
 ·rw[U23]
 ·rw[Ua7,Nat.add_assoc];refine hc (5+j) u ?_;cases l with
  | nil=>simp at hl
  | cons x l =>
   rw[List.flatMap_cons,List.getElem?_append_right (by simp[sml,Smp.cells])];rw[List.drop_succ_cons,List.drop_zero] at hu;rw[show 5+j-(sml x).length=j by simp[sml,Smp.cells]];exact hu
end
def Ul (m:Mrg)(vs:List Value):List Value:=[.int .i64 m.mark,.bool m.some,.int .i64 m.last.t,.int .i64 m.last.s,.int .i64 m.last.v.x,.int .i64 m.last.v.y,.int .i64 m.last.v.z]++vs++m.n.map (Value.int .i64)++[.int .i64 m.taken]
def mcs (m:Mrg)(vs:List Value):Array Value:=(Ul m vs).toArray
def mv (m:Mrg)(vs:List Value):Value := .agg (mcs m vs)
structure QsX (X:Nat→Prop) (w:World) (vs:List Value) (m:Mrg):Prop where
 len:vs.length=4
 nl:m.n.length=7
 at_:∀k,k<4→SmX X w (vs.getD k (.bool false)) (m.q.getD k [])
section
variable {X:Nat→Prop} {w w':World} {g:Nat} {t:TypeId} {m:Mrg} {vs:List Value}
theorem QsX.chg (h:QsX X w vs m)(hc:Chg X w w'):QsX X w' vs m:=⟨h.len,h.nl,fun k hk=>(h.at_ k hk).chg hc⟩
theorem QsX.below (h:QsX X w vs m)(hb:Below w.heap.size w w'):QsX X w' vs m:=h.chg (Chg.of hb)
theorem QsX.low (h:QsX X w vs m):QsX (fun k=>X k∨w.heap.size≤k) w vs m:=⟨h.len,h.nl,fun k hk=>(h.at_ k hk).low⟩
theorem QsX.mono {Y:Nat→Prop}(h:QsX X w vs m)(hY:∀k,Y k→X k):QsX Y w vs m:=⟨h.len,h.nl,fun k hk=>(h.at_ k hk).mono hY⟩
theorem QsX.same {m':Mrg}(h:QsX X w vs m)(hq:m'.q=m.q)(hn:m'.n.length=7):QsX X w vs m':=⟨h.len,hn,fun k hk=>by rw[hq];exact h.at_ k hk⟩
theorem Uau:(prog.info? 45).map (·.size)=some 19:=by kernel_rfl
theorem Uaf (hv:vs.length=4)(hn:m.n.length=7):(mcs m vs).size=19:=by simp[mcs,Ul,hv,hn]
theorem Uaj (hv:vs.length=4)(hn:m.n.length=7):(prog.info? 45).map (·.size)=some (mcs m vs).size:=by rw[Uaf hv hn];exact Uau
theorem Uec {v:Value}{size n:Nat}{xs:List Value}(h:Sl w v size n xs):v.oneCell'=true:=by obtain⟨_,A,c,rfl,_⟩:=h;rfl
theorem Uah (h:QsX X w vs m):(mcs m vs).all (·.oneCell')=true:=by
 obtain⟨v0,v1,v2,v3,rfl⟩:∃a b c d,vs=[a,b,c,d]:=by
  have:=h.len
  match vs,this with
  | [a,b,c,d],_=>exact⟨a,b,c,d,rfl⟩
 have h0:=Uec (h.at_ 0 (by omega)).1;have h1:=Uec (h.at_ 1 (by omega)).1;have h2:=Uec (h.at_ 2 (by omega)).1;have h3:=Uec (h.at_ 3 (by omega)).1;simp at h0 h1 h2 h3;have hi:∀(k:IntKind) (n:Int),(Value.int k n).oneCell'=true:=fun _ _=>rfl
 have hb:∀b:Bool,(Value.bool b).oneCell'=true:=fun _=>rfl
 simp[mcs,Ul,h0,h1,h2,h3,hi,hb]
theorem Uuk (h:Box w g t (mcs m vs)):w.cell? ⟨g,0,none⟩=some (.int .i64 m.mark):=h.cell 0
theorem Uzx (h:Box w g t (mcs m vs)):w.cell? ⟨g,1,none⟩=some (.bool m.some):=h.cell 1
theorem Uzy (h:Box w g t (mcs m vs)):w.rangeAt g 2 (sml m.last):=Box.midRange (A:=[.int .i64 m.mark,.bool m.some]) (C:=vs++m.n.map (Value.int .i64)++[.int .i64 m.taken]) (by simpa [mcs,Ul,sml,Smp.cells] using h) rfl
theorem m_q {k:Nat}(h:Box w g t (mcs m vs))(hv:vs.length=4)(hk:k<4):w.cell? ⟨g,7+k,none⟩=some (vs.getD k (.bool false)):=by
 rw[h.cell,mcs,Ul,List.append_assoc,List.append_assoc];simp only[List.getElem?_toArray];rw[List.getElem?_append_right (by simp),List.getElem?_append_left (by simp[hv]<;>omega)];rw[show 7+k-_=k by simp<;>omega,Xj (by omega)];simp[List.getD_eq_getElem?_getD,Xj (show k<vs.length by omega)]
theorem U8t (h:Box w g t (mcs m vs)):w.rangeAt g 7 vs:=Box.midRange (A:=[.int .i64 m.mark,.bool m.some,.int .i64 m.last.t,.int .i64 m.last.s,.int .i64 m.last.v.x,.int .i64 m.last.v.y,.int .i64 m.last.v.z]) (C:=m.n.map (Value.int .i64)++[.int .i64 m.taken]) (by simpa [mcs,Ul] using h) rfl
theorem m_n {k:Nat}(h:Box w g t (mcs m vs))(hv:vs.length=4)(hn:m.n.length=7)(hk:k<7):w.cell? ⟨g,11+k,none⟩=some (.int .i64 (m.n.getD k 0)):=by
 rw[h.cell,mcs,Ul];simp only[List.getElem?_toArray];rw[List.getElem?_append_left (by simp[hv,hn]<;>omega),List.getElem?_append_right (by simp[hv]<;>omega)];rw[show 11+k-_=k by simp[hv]<;>omega,List.getElem?_map,Xj (by omega)];simp[List.getD_eq_getElem?_getD,Xj (show k<m.n.length by omega)]
theorem Uzz (h:Box w g t (mcs m vs))(hv:vs.length=4)(hn:m.n.length=7):w.cell? ⟨g,18,none⟩=some (.int .i64 m.taken):=by
 rw[h.cell,mcs,Ul];simp only[List.getElem?_toArray];rw[List.getElem?_append_right (by simp[hv,hn])];simp[hv,hn]
end
theorem Us3 (n:Int)(h:Ua0 n)(w:World):Calls prog 102 #[.int .i64 n] w (fun e w'=>e = .returned (.bool true)∧w=w'):=by
 unfold Ua0 at h;have e1:decide (0≤n)=true:=Xi h.1;have e2:decide (n≤1099511627776)=true:=Xi h.2;clear h;go_enter func102,ntmps102;go_wp2_with fail;go_ret;exact⟨rfl,rfl⟩
theorem Uje (m:Mrg)(vs:List Value)(s:Smp)(w:World):Calls prog 104 #[mv m vs,Udr s] w (Ub (.bool (Ubu m s)) w):=by
 have KB:=Qd (fun w=>Uey m.last s w);have F:Hid (Ubu m s=(!m.some||Uaa m.last s)):=Qd rfl;rw[F.out];clear F;have D0:=Qd (Duo.new w 45 (mcs m vs) 40 s.cells);have C1:Hid (∀W,Box W w.heap.size 45 (mcs m vs)→W.cell? ⟨w.heap.size,1,none⟩=some (.bool m.some)):=Qd (fun W H=>Uzx H);have C2:Hid (∀W,Box W w.heap.size 45 (mcs m vs)→W.rangeAt w.heap.size 2 (sml m.last)):=Qd (fun W H=>Uzy H);have S5:Hid ((prog.info? 40).map (·.size)=some (sml m.last).length):=Qd Ye;have S6:Hid ((prog.info? 40).map (·.size)=some s.cells.size):=Qd Ye;generalize Uaa m.last s=bf at *;dsimp only[mv,Udr] at *;have e0:m.last.cells=(sml m.last).toArray:=rfl;rw[e0] at KB;clear e0;generalize sml m.last=ls at *;generalize m.some=sm at *;generalize mcs m vs=cs at *;generalize s.cells=ss at *;cases sm
 all_goals
  go_enter func104,ntmps104;go_upto_region 1 with fail
  refine Uq fun W0 hW0=>?_
  rw[←hW0] at D0;clear hW0;have c1:=C1.out _ D0.out.1
 ·go_wp2_with fail;go_ret;exact⟨rfl,D0.out.2.2⟩
 ·go_wp2_with (with_reducible first|refine Qi 40 ?_);refine Ubl.go rfl w.heap.size 2 rfl (C2.out _ D0.out.1) underlying40 rfl S5.out ?_;go_wp2_with (with_reducible first|refine Qi 40 ?_);refine Ubl.go rfl (w.heap.size+1) 0 rfl D0.out.2.1.rangeA underlying40 rfl (by simpa using S6.out) ?_;go_wp2_with fail;refine(KB.out _).mono ?_;rintro e w1 ⟨rfl,hb⟩;have D1:=Qd (Duo.kept D0.out hb);clear hb D0 c1;go_wp2_with fail;go_ret;exact⟨rfl,D1.out.2.2⟩
theorem Uz0 (a b c d:Value):(∀w,(Instr.index 42 (.agg #[a,b,c,d]) (.int .i64 0)).run prog w = .ok a w)∧(∀w,(Instr.index 42 (.agg #[a,b,c,d]) (.int .i64 1)).run prog w = .ok b w) ∧
  (∀w,(Instr.index 42 (.agg #[a,b,c,d]) (.int .i64 2)).run prog w = .ok c w)∧(∀w,(Instr.index 42 (.agg #[a,b,c,d]) (.int .i64 3)).run prog w = .ok d w) :=
 ⟨fun _=>by kernel_rfl,fun _=>by kernel_rfl,fun _=>by kernel_rfl,fun _=>by kernel_rfl⟩
theorem Uz1 {vs:List Value}(h:vs.length=4):∃a b c d,vs=[a,b,c,d]:=by
 match vs,h with
 | [a,b,c,d],_=>exact⟨a,b,c,d,rfl⟩
theorem Uwh {X:Nat→Prop}{m:Mrg}{vs:List Value}{w:World}(h:QsX X w vs m)(hl:Zh m≤64):Calls prog 103 #[mv m vs] w (Ub (.int .i64 (Zh m:Int)) w):=by
 have H0:Hid (Below w.heap.size w (w.alloc (.cells (mcs m vs) 45))):=Qd ((Xb _ w).alloc (Xa _) _);have R0:Hid ((w.alloc (.cells (mcs m vs) 45)).rangeAt w.heap.size 7 vs):=Qd (U8t (Box.new w 45 (mcs m vs)));have hv:=h.len;obtain⟨v0,v1,v2,v3,rfl⟩:=Uz1 hv;obtain⟨A0,c0,e0,_,_,_⟩:=(h.at_ 0 (by omega)).1.form;obtain⟨A1,c1,e1,_,_,_⟩:=(h.at_ 1 (by omega)).1.form;obtain⟨A2,c2,e2,_,_,_⟩:=(h.at_ 2 (by omega)).1.form;obtain⟨A3,c3,e3,_,_,_⟩:=(h.at_ 3 (by omega)).1.form;simp only[List.getD_cons_zero,List.getD_cons_succ] at e0 e1 e2 e3;unfold Zh at hl ⊢;clear h hv;generalize (m.q.getD 0 []).length=n0 at *;generalize (m.q.getD 1 []).length=n1 at *;generalize (m.q.getD 2 []).length=n2 at *;generalize (m.q.getD 3 []).length=n3 at *;subst e0 e1 e2 e3;dsimp only[mv];generalize mcs m _=cs at *;have hw0:(n0:Int)+n1≤64∧(n0:Int)+n1+n2≤64∧(n0:Int)+n1+n2+n3≤64:=by omega
 obtain⟨hw1,hw2,hw3⟩:=hw0;clear hl;obtain⟨ix0,ix1,ix2,ix3⟩:=Uz0 (.slice A0 n0 c0) (.slice A1 n1 c1) (.slice A2 n2 c2) (.slice A3 n3 c3);go_enter func103,ntmps103;go_wp2_with (with_reducible first|refine Qi 42 ?_);refine Ubl.go rfl w.heap.size 7 rfl R0.out underlying42 rfl (by kernel_rfl) ?_;go_wp2_with fail;refine wp_loop_rounds 5 ?_;rw[Xq];go_wp2_with fail;rw[Xq];go_wp2_with fail;rw[Xq];go_wp2_with fail;rw[Xq];go_wp2_with fail;rw[Xq];go_wp2_with fail;go_ret;exact⟨by simp,H0.out⟩
open Tryz
open Go.RowKit
structure RwR (w:World) (ml:List Value) (g:Nat) (ss:List Value) (W:World):Prop where
 m:Box W w.heap.size 45 ml.toArray
 s:Box W g 40 ss.toArray
 below:Below w.heap.size w W
theorem RwR.kept {w W W':World}{ml ss:List Value}{g:Nat}(H:RwR w ml g ss W)(hb:Below W.heap.size W W'):RwR w ml g ss W':=⟨H.m.kept hb,H.s.kept hb,Ua H.below hb H.below.size⟩
theorem RwR.drew {w W:World}{ml ss:List Value}{g:Nat}(H:RwR w ml g ss W):RwR w ml g ss W.drew:=⟨H.m.drew,H.s.drew,Ue H.below 1⟩
structure RwL (w:World) (ml:List Value) (W:World):Prop where
 m:Box W w.heap.size 45 ml.toArray
 below:Below w.heap.size w W
theorem RwL.next {w W:World}{ml ss:List Value}{z:Array Value}(H:RwL w ml W):RwR w ml W.heap.size ss ((W.alloc (.cells z 40)).setRow W.heap.size ss.toArray):=by
 have hl:=H.m.lt;exact⟨(H.m.alloc _).row_far (by omega) _,(Box.new W 40 z).row _,Uc (H.below.alloc H.below.size _) H.below.size _⟩
theorem Uz4 {X:Nat→Prop}{m:Mrg}{vs:List Value}{w:World}(h:QsX X w vs m){k:Nat}(hk:k<4)(hr:U5u m k):Calls prog 101 #[mv m vs,.int .i64 (k:Int)] w (Ub (.bool true) w):=by
 obtain⟨A,c,e0,hc1,hc2,-⟩:=(h.at_ k hk).1.form;unfold maxLen at hc2;have CQ0:Hid (∀W,Box W w.heap.size 45 (mcs m vs)→W.cell? ⟨w.heap.size,7+k,none⟩=some (vs.getD k (.bool false))):=Qd (fun W H=>m_q H h.len hk);have HM0:Hid ((prog.info? 45).map (·.size)=some (mcs m vs).size):=Qd (Uaj h.len h.nl);have KB0:=Qd (fun s w=>Uje m vs s w);have HQ:=Qd (h.at_ k hk);have HR:=Qd hr;have hl16:=hr.1;rw[e0] at CQ0 HQ;unfold U5u at HR;dsimp only[mv,mcs] at *;clear h hr e0;generalize Ul m vs=ml at *;generalize m.q.getD k []=l at *;have HM:Hid ((prog.info? 45).map (·.size)=some ml.length):=Qd (by simpa using HM0.out);obtain⟨n,hn⟩:∃n,l.length=n:=⟨_,rfl⟩;rw[hn] at CQ0 HQ hc1 hl16;have CQ:=CQ0;have L0:Hid (RwL w ml (w.alloc (.cells ml.toArray 45))):=Qd ⟨Box.new _ _ _,(Xb _ w).alloc (Xa _) _⟩;have HN:=Qd hn;have hk0:(0:Int)≤k:=by omega
 have hk4:(k:Int)<4:=by omega
 clear HM0 CQ0 hn;go_enter func101,ntmps101;go_upto_region 1 with fail
 refine Uq fun W0 hW0=>?_
 rw[←hW0] at L0;clear hW0;have x7:=CQ.out _ L0.out.m;go_wp2_with fail;clear x7;go_loopw [12] (fun i wr=>∃j:Nat,j≤n∧i = .int .i64 (j:Int)∧Hid (RwL w ml wr)) (fun i _=>n-(intOf i).toNat)
 case atStart=>exact⟨0,Nat.zero_le _,rfl,L0⟩
 case round =>
  obtain⟨j,hj,rfl,HL⟩:=hrel;by_cases hlt:j<n
  ·obtain⟨s,hs⟩:∃s,l[j]? = Option.some s:=⟨l[j]'(by rw[HN.out];exact hlt),Xj _⟩;obtain⟨hsane,hsk,hbh,hrise⟩:=HR.out.2 j s hs;obtain⟨b,off,rfl,hbl,-,hrow⟩:=HQ.out.at_ hs;have KS:=Qd (fun w=>Uds s w);have KB:=Qd (fun w=>KB0.out s w);rw[Xi hsane] at KS;rw[hbh] at KB;obtain⟨t,sk,⟨v0,v1,v2⟩⟩:=s;dsimp only[Udr,Smp.cells,sml] at hsk hrise hrow KS KB;subst hsk;have HW:Hid (wr.rangeAt b (off+j*5) [.int .i64 t,.int .i64 (k:Int),.int .i64 v0,.int .i64 v1,.int .i64 v2]):=Qd (fun q u hu=>(HL.out.below.cell (p:=⟨b,off+j*5+q,none⟩) hbl).trans (hrow q u hu));have hji:(j:Int)<(n:Int):=by omega
   have S5:Hid ((prog.info? 40).map (·.size)=some ([.int .i64 t,.int .i64 (k:Int),.int .i64 v0,.int .i64 v1,.int .i64 v2]:List Value).length):=Qd Ye;clear hrow hsane hbh KB0;go_wp2_with (with_reducible first|refine Qi 40 ?_|refine Qh 40 ?_);refine Ubl.go rfl b (off+j*5) rfl HW.out underlying40 rfl S5.out ?_;go_wp2_with (with_reducible first|refine Qi 40 ?_|refine Qh 40 ?_);refine Uf.go wr.heap.size rfl rfl (Box.new _ _ _) S5.out rfl (by simp[Value.oneCell']) ?_;go_upto_region 4 with fail
   refine Uq fun W1 hW1=>?_
   have R1:Hid (RwR w ml wr.heap.size [.int .i64 t,.int .i64 (k:Int),.int .i64 v0,.int .i64 v1,.int .i64 v2] W1):=Qd (by rw[hW1];exact HL.out.next);clear hW1 HW S5 HL;generalize wr.heap.size=g6 at *;by_cases h0:j=0;rotate_right
   focus
    obtain⟨i,hj9⟩:∃i,j=i+1:=⟨j-1,by omega⟩;obtain⟨p,hp⟩:∃p,l[i]? = Option.some p:=⟨l[i]'(by rw[HN.out];omega),Xj _⟩;have hpt:=hrise p (by omega) (by rw[show j-1=i by omega];exact hp);obtain⟨b',off',e',-,-,hrow⟩:=HQ.out.at_ hp;injection e' with e'
    injection e' with e1 e2
    subst e1 e2;obtain⟨pt,psk,⟨pv0,pv1,pv2⟩⟩:=p;have CP:Hid (∀W,Below w.heap.size w W→W.cell? ⟨b,off+i*5,none⟩=some (.int .i64 pt)):=Qd (fun W hb=>(hb.cell (p:=⟨b,off+i*5,none⟩) hbl).trans (hrow 0 _ rfl));dsimp only at hpt;have d1:decide (t≤pt)=false:=Xh (by omega);have p1:0<j:=by omega
    have p2:IntKind.i64.wrap ((j:Int)-1)=(i:Int):=by rw[Xf];omega
    have p3:(i:Int)<(n:Int):=by omega
    have p4:(0:Int)≤(i:Int):=by omega
    clear hrise h0 hrow hp hs hpt hj9
   rotate_right
   focus
    have p1:¬0<j:=by omega
    clear hrise h0
   all_goals
    refine Xm (S:=fun w'=>RwR w ml g6 [.int .i64 t,.int .i64 (k:Int),.int .i64 v0,.int .i64 v1,.int .i64 v2] w') (by kernel_rfl) R1.out.drew (fun hHeld=>?_);refine Ux (i:=0) (v := .agg ([.int .i64 t,.int .i64 (k:Int),.int .i64 v0,.int .i64 v1,.int .i64 v2]).toArray) rfl rfl (by kernel_rfl) (by kernel_rfl) (by kernel_rfl) (fun _ _ _ h=>h)
     (Xn (by rfl) 40 _ rfl (g6) (0) rfl ([.int .i64 t,.int .i64 (k:Int),.int .i64 v0,.int .i64 v1,.int .i64 v2]) _ (fun _ h=>h.s.rangeA) underlying40 rfl Ye) hHeld ?_
    simp only[Qz];refine Qc 1 fun KQ hKQ=>?_
    go_simp;refine(KS.out _).mono ?_;rintro e w3 ⟨rfl,hb⟩;have R2:=Qd (R1.out.drew.kept hb);clear hb;refine hKQ.out _ _ (R2.out) (fun hHeld=>?_);clear hKQ KQ;refine Qn 2 (.bool false) ?_;refine Qn 3 (.bool false) ?_;refine Qn 4 (.pointer (some ⟨g6,1,none⟩)) ?_;refine Qe 5 (.int .i64 (k:Int)) (fun w hw=>?_) ?_
    ·obtain⟨x0,x1,x2,x3,x4⟩:=(Udl hw.s).1;go_simp
    simp only[Qz];refine Qn 6 (.int .i64 (k:Int)) ?_;refine Qn 7 (.bool false) ?_;refine Qn 8 (.bool false) ?_;refine Qn 9 (.bool false) ?_;refine Ux (i:=10) (v := .agg (ml).toArray) rfl rfl (by kernel_rfl) (by kernel_rfl) (by kernel_rfl) (fun _ _ _ h=>h)
     (Xn (by rfl) 45 _ rfl (w.heap.size) (0) rfl (ml) _ (fun _ h=>h.m.rangeA) underlying45 rfl HM.out) hHeld ?_
    simp only[Qz];refine Ux (i:=11) (v := .agg ([.int .i64 t,.int .i64 (k:Int),.int .i64 v0,.int .i64 v1,.int .i64 v2]).toArray) rfl rfl (by kernel_rfl) (by kernel_rfl) (by kernel_rfl) (fun _ _ _ h=>h)
     (Xn (by rfl) 40 _ rfl (g6) (0) rfl ([.int .i64 t,.int .i64 (k:Int),.int .i64 v0,.int .i64 v1,.int .i64 v2]) _ (fun _ h=>h.s.rangeA) underlying40 rfl Ye) hHeld ?_
    simp only[Qz];refine Qc 12 fun KQ hKQ=>?_
    go_simp;refine(KB.out _).mono ?_;rintro e w4 ⟨rfl,hb⟩;have R3:=Qd (R2.out.kept hb);clear hb;refine hKQ.out _ _ (R3.out) (fun hHeld=>?_);clear hKQ KQ;refine Qn 13 (.bool false) ?_;refine Qn 14 (.bool false) ?_;refine Qn 15 (.bool false) ?_;refine Qn 16 (.int .i64 (j:Int)) ?_
   rotate_right
   focus
    refine Qn 17 (.bool true) ?_;refine Qn 18 (.bool true) ?_;refine Qn 19 (.int .i64 (k:Int)) ?_;refine Qn 20 (.pointer (some ⟨w.heap.size,7,none⟩)) ?_;refine Qn 21 (.pointer (some ⟨w.heap.size,7+k,none⟩)) ?_;refine Qe 22 (.slice (some ⟨b,off,none⟩) n c) (fun w hw=>?_) ?_
    ·have x7:=CQ.out _ hw.m;go_simp
    simp only[Qz];refine Qn 23 (.int .i64 (j:Int)) ?_;refine Qn 24 (.int .i64 (i:Int)) ?_;refine Qn 25 (.pointer (some ⟨b,off+i*5,none⟩)) ?_;refine Qn 26 (.pointer (some ⟨b,off+i*5,none⟩)) ?_;refine Qe 27 (.int .i64 pt) (fun w hw=>?_) ?_
    ·have xp:=CP.out _ hw.below;go_simp
    simp only[Qz];refine Qn 28 (.pointer (some ⟨g6,0,none⟩)) ?_;refine Qe 29 (.int .i64 t) (fun w hw=>?_) ?_
    ·obtain⟨x0,x1,x2,x3,x4⟩:=(Udl hw.s).1;go_simp
    simp only[Qz];refine Qn 30 (.bool false) ?_
   rotate_right
   focus
    refine Qn 17 (.bool false) ?_;refine Qn 18 (.bool false) ?_;refine Qm 19 ?_;refine Qm 20 ?_;refine Qm 21 ?_;refine Qm 22 ?_;refine Qm 23 ?_;refine Qm 24 ?_;refine Qm 25 ?_;refine Qm 26 ?_;refine Qm 27 ?_;refine Qm 28 ?_;refine Qm 29 ?_;refine Qm 30 ?_
   all_goals
    refine Qn 31 (.bool false) ?_;refine Qn 32 (.bool false) ?_;refine Xl (by kernel_rfl) ?_ _
   rotate_right
   focus
    clear hHeld R1 R2 p2 p3 p4 d1
   rotate_right
   focus
    clear hHeld R1 R2
   all_goals
    go_wp2_with fail;go_roundw
    case rel=>exact⟨j+1,by omega,by go_num,Qd ⟨R3.out.m,R3.out.below⟩⟩
    case measure=>simp[intOf];omega
  ·have hge:¬(j:Int)<(n:Int):=by omega
   have x7:=CQ.out _ HL.out.m;have h16:(n:Int)≤16:=by omega
   go_wp2_with fail;go_ret;exact⟨rfl,HL.out.below⟩
section
variable {P:Program} {ops:Array Oper} {md:Region.Mode} {Q:Exit→Act→World→Prop} {l n:Nat}
theorem Ujg {o:Oper}(hd:∀c,o.op ≠ .defer c){a:Act}{w:World}{K:Act→World→Prop}(h:o.wp P a w K Q):o.wpIn (Fence.wide.inRound l) n P a w K Q:=by
 refine⟨fun _ _=>trivial,?_⟩;rw[show(Fence.wide.inRound l).round=some l from rfl,Oper.semAt_some l _ _ hd];unfold Oper.wp at h;generalize (execOp a.eval o).run P w=r at *;cases r with
 | ok x w' =>
  cases x<;>simp only[Oper.upon,Oper.uponIn] at h ⊢
  case value=>exact h
  case skip=>exact h
  case defer=>exact h
  case enter=>exact⟨(fun h=>by cases h),CallsIn.inRound l (callsIn_wide.2 h)⟩
  case row=>exact⟨(fun h=>by cases h),fun c cs _=>let ⟨v,w',r,s⟩:=h c cs;⟨v,w',r,stepsIn_wide.2 s⟩⟩
 | halt x w' =>
  cases x<;>simp only[Oper.upon,Oper.uponIn] at h ⊢
  exact h
def Uo2 (ops:Array Oper):Bool:=ops.all fun o=>match o.op with | .defer _=>false|_=>true
theorem Uwl (h:Uo2 ops=true){i:Nat}{o:Oper}(ho:ops[i]? = some o):∀c,o.op ≠ .defer c:=by
 obtain⟨hi,he⟩:=Array.getElem?_eq_some_iff.1 ho;have:=Array.all_eq_true.1 h i hi;rw[he] at this;intro c hc;rw[hc] at this;cases this
theorem Uqx (hd:Uo2 ops=true)(hQ:∀a w,¬Q .outgrown a w){i:Nat}{K:Act→World→Prop}{a:Act}{w:World}(h:wpOp P ops Q i K a w):wpOpIn (Fence.wide.inRound l) n P ops Q i K a w:=by
 unfold wpOp at h;unfold wpOpIn;cases ho:ops[i]? with
 | none=>rw[ho] at h;exact h
 | some o =>
  rw[ho] at h;simp only at h ⊢;split
  ·rename_i hw;simp only[hw,if_true] at h;rcases h with h|h
   ·exact Ujg (Uwl hd ho) h
   ·obtain⟨_,a,w,h⟩:=h;exact absurd h (hQ a w)
  ·rename_i hw;simp only[hw] at h;exact⟨fun _ _=>trivial,h⟩
theorem Uo3 (hd:Uo2 ops=true)(hQ:∀a w,¬Q .outgrown a w):∀(fuel:Nat) (listed:Array Bool) (a:Act) (w:World),wpAny P md ops Q fuel listed a w→wpAnyIn (Fence.wide.inRound l) n P md ops Q fuel listed a w:=by
 intro fuel
 induction fuel with
 | zero=>exact fun _ _ _ h=>h
 | succ fuel ih=>exact fun listed a w h=>⟨h.1,fun i hi=>wpOpIn_mono (fun a w h=>ih _ a w h) (Uqx hd hQ (h.2 i hi))⟩
def Umn (Q:Exit→Act→World→Prop):Exit→Act→World→Prop
 | .normal,a,w=>Q .normal a w
 | _,_,_=>False
theorem Uul:∀e a w,Umn Q e a w→Q e a w:=fun e a w h=>by cases e<;>first|exact h|exact h.elim
theorem Uis {c:Code}{a:Act}{w:World}(h:c.wp P (Umn Q) a w):c.wp P Q a w:=wp_mono h Uul
theorem Uz7 {F:Fence}{c:Code}{a:Act}{w:World}(h:c.wpIn F n P (Umn Q) a w):c.wpIn F n P Q a w:=wpIn_mono h Uul
theorem Ujz {S:World→Prop}{id:Nat}{a:Act}{w:World}(L m:Nat)(hm:P.follows .mixedOrders=true)(hd:Uo2 ops=true)(hQ:∀a w,¬Q .outgrown a w)(hn:ops.size=m+1)(hL:U5n .any ops (Array.replicate ops.size false) L=true)(hl:L<ops.size)(hS:S w.drew)
  (h:S w.drew→wpAnyH P .any ops (Ulo P ops Q L) S m ((Array.replicate ops.size false).setIfInBounds L true) a w.drew):(Code.region id ops true).wpIn (Fence.wide.inRound l) n P Q a w:=by
 refine wpIn_region_any hm (Uo3 hd hQ _ _ _ _ ?_);have:=Unb (Una hL) m (Array.replicate ops.size false) a w.drew (U1y.start _) (by simp[hl]) (wpAny_of_held _ _ _ _ (h hS));rw[←hn] at this;exact this
theorem Uhs {w:World}{a:Act}{rest:List Oper}{o:Oper}(hgd:o.guard=none)(s y:Operand)(t:TypeId)
  (ho:o.op = .call { callee := .builtin .append,args:=#[s,y],argTypes:=#[t,t] })
  (base:Nat) (e:TypeId) (i:TypeInfo) (z:Value) (size bytes:Nat) (ht:P.underlying t=some (.slice e)) (hi:P.info? e=some i) (hz:i.zero=some z)
  (hsize:i.size=size) (hby:i.bytes=bytes) (hzs:z.cells.size=size) (hsz:0<size)
  (v:Value) (m:Nat) (xs:List Value) (hs:a.eval s=v) (hown:w.ownsRow base e size v m xs)
  (x:Value) (k:Nat) (news:List Value) (hy:a.eval y=x) (hx:Sl w x size k news) (h1:∀u∈news,u.oneCell'=true)
  (h63:m+k≤maxLen) (hbytes:(m+k)*bytes≤140737488355328) (hbase:base≤w.heap.size)
  (h:∀v' w',w'.ownsRow base e size v' (m+k) (xs++news)→w.grownBy w' v.ownBlock→(v'.ownBlock=v.ownBlock∨v'.ownBlock=some w.heap.size)→wpListIn (Fence.wide.inRound l) n P ops Q rest (a.put o.dst v') w'):wpListIn (Fence.wide.inRound l) n P ops Q (o::rest) a w :=
 wpListIn_plain hgd fun _ hK=>Ujg (fun c hc=>by rw[ho] at hc;cases hc) (Zm w s y t ho base e i z size bytes ht hi hz hsize hby hzs hsz v m xs hs hown x k news hy hx h1 h63 hbytes hbase fun v' w' h2 h3 h4=>hK _ _ (h v' w' h2 h3 h4))
end
end Go.Proofs.YtdaflmjfeoacaaaGreat
