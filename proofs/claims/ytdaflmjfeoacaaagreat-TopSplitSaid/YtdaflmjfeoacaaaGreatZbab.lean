/- Part of the proof of TopTry, TopSplit: Tp0. Conditions: none. -/
import Derived.WalkKit
import Derived.WalkLawsBesides
import Derived.WalkSpells
import Derived.Below
import Derived.Laws.OwnMore
import Derived.Maps.AppendAt
import Derived.Deep.AppendLies
import Derived.Deep.Draws
import Derived.Laws.Rows
import Derived.Lib.Hide
import Derived.Test.YtdaflmjfeoacaaaGreatProg
import Derived.Deep.RegionHeld3
import Derived.BigQuiet
import Derived.Deep.QuietTactic
import Derived.KernelRfl
import Derived.Laws.Tables
import Derived.Deep.MidRow
import Derived.RangeFuncNested
import Derived.RangeFuncBound
import Derived.RangeFuncCalls
import Derived.RangeFuncLeaves
import Derived.Shelf.Abstract
import Derived.Shelf.RegionOpen
import Derived.OwnWalkIn
import Derived.TacticsInMore
import Derived.LoopNIn
import Derived.LoopIn
import Derived.Laws.Small
import Derived.ChangeKeysEq
import Derived.Laws.StructEq
import Derived.Lib.AppendZerosOnto
set_option linter.all false
set_option maxHeartbeats 16000000
set_option maxRecDepth 4000
namespace Go.Proofs.YtdaflmjfeoacaaaGreat
open Tryz
open Go.RowKit
theorem Qz : (∀ {α : Type} (l : List α) (i : Nat) (a : α), l.toArray.setIfInBounds i a = (l.set i a).toArray) ∧ (∀ {α : Type} (x : α) (l : List α) (a : α), (x :: l).set 0 a = a :: l) ∧ (∀ {α : Type} (x : α) (l : List α) (n : Nat) (a : α), (x :: l).set (n + 1) a = x :: l.set n a) :=
  ⟨fun l i a => List.setIfInBounds_toArray l i a, fun _ _ _ => rfl, fun _ _ _ _ => rfl⟩
def Xa:=@Nat.le_refl
def Xb:=@Below.refl
def Xc:=@And.intro
def Xd:=@Nat.le_trans
def Xe:=@Nat.lt_of_lt_of_le
def Xf:=@IntKind.wrap_i64
def Xg:=@IntKind.wrap_u64
def Xh:=@decide_eq_false
def Xi:=@decide_eq_true
def Xj:=@List.getElem?_eq_getElem
def Xk:=@bodyPost_ret
def Xl:=@wpAnyH_done
def Xm:=@wp_region_held_drew
def Xn:=@yieldsIf_load_mid
def Xo:=@AllReadyH.cons
def Xp:=@Below.size
def Xq:=@rounds_succ
section
variable {P : Program} {md : Region.Mode} {ops : Array Oper} {Q : Exit → Act → World → Prop} {S : World → Prop} {d : Nat} {oi : Oper} {fuel : Nat} {listed : Array Bool} {tmps : Array Value} {ds : List Deferred} {w : World}
theorem Qe (i : Nat) (v : Value) (hy : ∀ w, S w → (execOp (Act.eval ⟨tmps, ds⟩) oi).run P w = .ok (.value v) w)
    (h : wpAnyH P md ops Q S fuel (listed.setIfInBounds i true) ⟨tmps.setIfInBounds d v, ds⟩ w) (hi : ops[i]? = some oi := by exact rfl) (hd : oi.dst = some d := by exact rfl) (hS : S w := by exact hHeld)
    (hs : (Region.noSelect ops && (Region.free md ops listed i && ((Region.ready md ops listed).contains i && Region.wanted oi (yielded ops tmps)))) = true := by kernel_rfl)
    (hQ : ∀ c a w, Q (.panic c) (a.put oi.dst v) w → Q (.panic c) a w := by exact fun _ _ _ => id) : wpAnyH P md ops Q S (fuel + 1) listed ⟨tmps, ds⟩ w := by
  simp only [Bool.and_eq_true] at hs;exact wpAnyH_take hi hs.1 hs.2.1 hs.2.2.1 hQ (Or.inl ⟨hs.2.2.2, hy⟩) hS (by rw [hd]; exact h)
theorem Qa (i : Nat) (v : Value) (h : wpAnyH P md ops Q S fuel (listed.setIfInBounds i true) ⟨tmps.setIfInBounds d v, ds⟩ w) (hi : ops[i]? = some oi := by exact rfl) (hd : oi.dst = some d := by exact rfl) (hS : S w := by exact hHeld)
    (hs : (Region.noSelect ops && (Region.free md ops listed i && ((Region.ready md ops listed).contains i && Region.wanted oi (yielded ops tmps)))) = true := by kernel_rfl)
    (hQ : ∀ c a w, Q (.panic c) (a.put oi.dst v) w → Q (.panic c) a w := by exact fun _ _ _ => id)
    (hy : ∀ w, S w → (execOp (Act.eval ⟨tmps, ds⟩) oi).run P w = .ok (.value v) w := by intro w hw; go_simp) : wpAnyH P md ops Q S (fuel + 1) listed ⟨tmps, ds⟩ w :=
  Qe i v hy h hi hd hS hs hQ
theorem Qb (i : Nat) (h : wpAnyH P md ops Q S fuel (listed.setIfInBounds i true) ⟨tmps.setIfInBounds d undef, ds⟩ w) (hi : ops[i]? = some oi := by exact rfl) (hd : oi.dst = some d := by exact rfl) (hS : S w := by exact hHeld)
    (hs : (Region.noSelect ops && (Region.free md ops listed i && ((Region.ready md ops listed).contains i && !Region.wanted oi (yielded ops tmps)))) = true := by kernel_rfl)
    (hQ : ∀ c a w, Q (.panic c) (a.put oi.dst undef) w → Q (.panic c) a w := by exact fun _ _ _ => id) : wpAnyH P md ops Q S (fuel + 1) listed ⟨tmps, ds⟩ w := by
  simp only [Bool.and_eq_true, Bool.not_eq_true'] at hs;exact wpAnyH_take hi hs.1 hs.2.1 hs.2.2.1 hQ (Or.inr ⟨hs.2.2.2, rfl⟩) hS (by rw [hd]; exact h)
theorem Qn {L : Array Bool} {T : Array Value} (i : Nat) (v : Value) (h : wpAnyH P md ops Q S fuel L ⟨T, ds⟩ w) (hi : ops[i]? = some oi := by exact rfl) (hd : oi.dst = some d := by exact rfl) (hS : S w := by exact hHeld)
    (hL : listed.setIfInBounds i true = L := by (try simp only [Qz]); exact rfl) (hT : tmps.setIfInBounds d v = T := by (try simp only [Qz]); exact rfl)
    (hs : (Region.noSelect ops && (Region.free md ops listed i && ((Region.ready md ops listed).contains i && Region.wanted oi (yielded ops tmps)))) = true := by kernel_rfl)
    (hQ : ∀ c a w, Q (.panic c) (a.put oi.dst v) w → Q (.panic c) a w := by exact fun _ _ _ => id)
    (hy : ∀ w, S w → (execOp (Act.eval ⟨tmps, ds⟩) oi).run P w = .ok (.value v) w := by intro w hw; go_simp) : wpAnyH P md ops Q S (fuel + 1) listed ⟨tmps, ds⟩ w :=
  Qe i v hy (by rw [hL, hT]; exact h) hi hd hS hs hQ
theorem Qm {L : Array Bool} {T : Array Value} (i : Nat) (h : wpAnyH P md ops Q S fuel L ⟨T, ds⟩ w) (hi : ops[i]? = some oi := by exact rfl) (hd : oi.dst = some d := by exact rfl) (hS : S w := by exact hHeld)
    (hL : listed.setIfInBounds i true = L := by (try simp only [Qz]); exact rfl) (hT : tmps.setIfInBounds d undef = T := by (try simp only [Qz]); exact rfl)
    (hs : (Region.noSelect ops && (Region.free md ops listed i && ((Region.ready md ops listed).contains i && !Region.wanted oi (yielded ops tmps)))) = true := by kernel_rfl)
    (hQ : ∀ c a w, Q (.panic c) (a.put oi.dst undef) w → Q (.panic c) a w := by exact fun _ _ _ => id) : wpAnyH P md ops Q S (fuel + 1) listed ⟨tmps, ds⟩ w :=
  Qb i (by rw [hL, hT]; exact h) hi hd hS hs hQ
theorem Qc {a : Act} (i : Nat)
    (h : ∀ K' : Act → World → Prop, Shut (∀ a w, S w → (S w → wpAnyH P md ops Q S fuel (listed.setIfInBounds i true) a w) → K' a w) → if Region.wanted oi (yielded ops a.tmps) = true then Oper.wp P oi a w K' Q else K' (a.put oi.dst undef) w)
    (ho : ops[i]? = some oi := by exact rfl) (hr : Region.ready md ops listed = [i] := by kernel_rfl) : wpAnyH P md ops Q S (fuel + 1) listed a w :=
  wpAnyH_ready hr (by simp) (Xo ho h AllReadyH.nil)
end
theorem Qd {p : Prop} (h : p) : RowKit.Hid p := h
theorem Ugt (a:Addr)(n:Nat):(a.add n).block=a.block:=by unfold Addr.add;split<;>rfl
theorem U4w (a:Addr)(i j:Nat):(a.add i).add j=a.add (i+j):=by
 unfold Addr.add;by_cases hi:i=0<;>by_cases hj:j=0<;>simp[hi,hj,Nat.add_assoc]
theorem Ua7 (b off j:Nat):(⟨b,off,none⟩:Addr).add j=⟨b,off+j,none⟩:=by
 unfold Addr.add;split<;>simp_all
def Sl (w:World)(v:Value)(size n:Nat)(xs:List Value):Prop :=
 xs.length=n*size∧∃A c,v = .slice A n c∧n≤c∧c≤maxLen∧(A=none→n=0∧c=0) ∧
  (0<n→∃ad:Addr,A=some ad∧ad.block<w.heap.size∧∀j u,xs[j]? = some u→w.cell? (ad.add j)=some u)
section
variable {w w':World} {v:Value} {size n:Nat} {xs:List Value}
theorem Sl.keep (h:Sl w v size n xs)(hs:w.heap.size≤w'.heap.size)(hk:∀p:Addr,p.block<w.heap.size→w'.cell? p=w.cell? p):Sl w' v size n xs:=by
 obtain⟨hl,A,c,e,h1,h2,h0,h3⟩:=h;refine⟨hl,A,c,e,h1,h2,h0,fun hn=>?_⟩;obtain⟨ad,ha,hb,hc⟩:=h3 hn;exact⟨ad,ha,by omega,fun j u hu=>(hk _ (by rw[Ugt];exact hb)).trans (hc j u hu)⟩
theorem Sl.below (h:Sl w v size n xs)(hb:Below w.heap.size w w'):Sl w' v size n xs:=h.keep hb.size fun _ hp=>hb.cell hp
theorem Sl.alloc (h:Sl w v size n xs)(o:Obj):Sl (w.alloc o) v size n xs:=h.keep (by simp) fun p hp=>World.cell?_alloc_lt w o p hp
theorem Sl.len (h:Sl w v size n xs):xs.length=n*size:=h.1
theorem Sl.form (h:Sl w v size n xs):∃A c,v = .slice A n c∧n≤c∧c≤maxLen∧(A=none→n=0∧c=0):=by
 obtain⟨_,A,c,e,h1,h2,h0,_⟩:=h;exact⟨A,c,e,h1,h2,h0⟩
theorem Sl.at_ {A:Option Addr}{c:Nat}(h:Sl w (.slice A n c) size n xs)(hn:0<n)(hsz:0<size) :
  ∃b off,A=some ⟨b,off,none⟩∧b<w.heap.size∧∀j u,xs[j]? = some u→w.cell? ⟨b,off+j,none⟩=some u:=by
 obtain⟨hl,A',c',e,h1,h2,h0,h3⟩:=h;injection e with e1 e2 e3
 subst e1;obtain⟨ad,rfl,hb,hc⟩:=h3 hn;have h0':0<xs.length:=by rw[hl];exact Nat.mul_pos hn hsz
 have hc0:=hc 0 _ (Xj h0');have hs:ad.spot=none:=by have:=World.cell?_spot hc0;simpa [Addr.add] using this
 obtain⟨b,off,sp⟩:=ad;subst hs;exact⟨b,off,rfl,hb,fun j u hu=>by rw[←Ua7];exact hc j u hu⟩
theorem Sl.nil (w:World)(size:Nat):Sl w (.slice none 0 0) size 0 []:=⟨by simp,none,0,rfl,Xa _,Nat.zero_le _,fun _=>⟨rfl,rfl⟩,fun h=>absurd h (by omega)⟩
theorem Sl.of_own {base:Nat}{e:TypeId}(h:w.ownsRow base e size v n xs):Sl w v size n xs:=by
 refine⟨h.1,?_⟩;rcases h.2 with ⟨rfl,rfl⟩|⟨g,cap,cur,rfl,hg,hh,h1,h2,h3,h4⟩
 ·exact⟨none,0,rfl,Xa _,Nat.zero_le _,fun _=>⟨rfl,rfl⟩,fun h=>absurd h (by omega)⟩
 ·refine⟨some ⟨g,0,none⟩,cap,rfl,h1,h2,(fun h=>by cases h),fun hn=>⟨_,rfl,?_,h.cells (g:=g) rfl⟩⟩;exact(Array.getElem?_eq_some_iff.1 hh).1
end
section
variable {P:Program} (w:World)
theorem Umb (base:Nat)(t t' ty e:TypeId)(i:TypeInfo)(size:Nat)(ht:P.underlying t=some (.slice e))(ht':P.underlying t'=some (.slice e))(hi:P.info? e=some i)
  (v:Value) (n:Nat) (xs:List Value) (hown:w.ownsRow base e size v n xs) (c:Nat):(Builtin.append_ #[t,t'] ty #[v,.slice none 0 c]).run P w = .ok v w:=by
 rcases hown.2 with ⟨rfl,rfl⟩|⟨g,cap,cur,rfl,_,_,hnc,_⟩
 ·simp[Builtin.append_,run_underlying ht,run_underlying ht',sizeOf,typeInfo,hi,Builtin.lenOf,Builtin.firstCells]
 ·simp[Builtin.append_,run_underlying ht,run_underlying ht',sizeOf,typeInfo,hi,Builtin.lenOf,Builtin.firstCells,hnc,storeCells]
theorem Un1 (base:Nat)(t ty e:TypeId)(i:TypeInfo)(z:Value)(size bytes:Nat)(ht:P.underlying t=some (.slice e))(hi:P.info? e=some i)(hz:i.zero=some z)
  (hsize:i.size=size) (hby:i.bytes=bytes) (hzs:z.cells.size=size) (hsz:0<size)
  (v:Value) (n:Nat) (xs:List Value) (hown:w.ownsRow base e size v n xs)
  (x:Value) (m:Nat) (news:List Value) (hx:Sl w x size m news) (h1:∀u∈news,u.oneCell'=true)
  (h63:n+m≤maxLen) (hbytes:(n+m)*bytes≤140737488355328) (hbase:base≤w.heap.size) :
  ∃v' w',(Builtin.append_ #[t,t] ty #[v,x]).run P w = .ok v' w'∧w'.ownsRow base e size v' (n+m) (xs++news)∧w.grownBy w' v.ownBlock ∧
   (v'.ownBlock=v.ownBlock∨v'.ownBlock=some w.heap.size):=by
 obtain⟨A,c,rfl,_,_,hA⟩:=hx.form;cases A with
 | none =>
  obtain⟨rfl,rfl⟩:=hA rfl;have hn:news=[]:=List.eq_nil_of_length_eq_zero (by simpa using hx.len);subst hn;exact⟨v,w,Umb w base t t ty e i size ht ht hi v n xs hown 0,by simpa using hown,World.grownBy.refl w _,.inl rfl⟩
 | some ad =>
  have hcells:∀j u,news[j]? = some u→w.cell? (ad.add j)=some u:=by
   intro j u hu;by_cases hm:m=0
   ·subst hm;have hn:news=[]:=List.eq_nil_of_length_eq_zero (by simpa using hx.len);subst hn;simp at hu
   ·obtain⟨b,off,e1,_,hc⟩:=hx.at_ (by omega) hsz;injection e1 with e1
    subst e1;rw[Ua7];exact hc j u hu
  obtain⟨v',w',hrun,h2,h3,_,h5⟩:=run_append_own_at (P:=P) w base t ty e i z size bytes ht hi hz hsize hby hzs hsz v n xs hown ad m c news hx.len hcells h1 h63 hbytes hbase;exact⟨v',w',hrun,h2,h3,h5⟩
theorem Zm {o:Oper}{a:Act}{K:Act→World→Prop}{Q:Exit→Act→World→Prop}(s y:Operand)(t:TypeId)
  (ho:o.op = .call { callee := .builtin .append,args:=#[s,y],argTypes:=#[t,t] })
  (base:Nat) (e:TypeId) (i:TypeInfo) (z:Value) (size bytes:Nat) (ht:P.underlying t=some (.slice e)) (hi:P.info? e=some i) (hz:i.zero=some z)
  (hsize:i.size=size) (hby:i.bytes=bytes) (hzs:z.cells.size=size) (hsz:0<size)
  (v:Value) (n:Nat) (xs:List Value) (hs:a.eval s=v) (hown:w.ownsRow base e size v n xs)
  (x:Value) (m:Nat) (news:List Value) (hy:a.eval y=x) (hx:Sl w x size m news) (h1:∀u∈news,u.oneCell'=true)
  (h63:n+m≤maxLen) (hbytes:(n+m)*bytes≤140737488355328) (hbase:base≤w.heap.size)
  (h:∀v' w',w'.ownsRow base e size v' (n+m) (xs++news)→w.grownBy w' v.ownBlock→(v'.ownBlock=v.ownBlock∨v'.ownBlock=some w.heap.size)→K (a.put o.dst v') w'):o.wp P a w K Q:=by
 obtain⟨v',w',hrun,h2,h3,h4⟩:=Un1 (P:=P) w base t o.type e i z size bytes ht hi hz hsize hby hzs hsz v n xs hown x m news hx h1 h63 hbytes hbase;unfold Oper.wp execOp;simp only[ho,resolve,invoke,builtin,Sem.run_bind,Sem.run_pure,Result.andThen_ok,List.map_toArray,List.map_cons,List.map_nil,hs,hy,hrun];exact h v' w' h2 h3 h4
theorem Ug {ops:Array Oper}{rest:List Oper}{o:Oper}{a:Act}{Q:Exit→Act→World→Prop}(hgd:o.guard=none)(s y:Operand)(t:TypeId)
  (ho:o.op = .call { callee := .builtin .append,args:=#[s,y],argTypes:=#[t,t] })
  (base:Nat) (e:TypeId) (i:TypeInfo) (z:Value) (size bytes:Nat) (ht:P.underlying t=some (.slice e)) (hi:P.info? e=some i) (hz:i.zero=some z)
  (hsize:i.size=size) (hby:i.bytes=bytes) (hzs:z.cells.size=size) (hsz:0<size)
  (v:Value) (n:Nat) (xs:List Value) (hs:a.eval s=v) (hown:w.ownsRow base e size v n xs)
  (x:Value) (m:Nat) (news:List Value) (hy:a.eval y=x) (hx:Sl w x size m news) (h1:∀u∈news,u.oneCell'=true)
  (h63:n+m≤maxLen) (hbytes:(n+m)*bytes≤140737488355328) (hbase:base≤w.heap.size)
  (h:∀v' w',w'.ownsRow base e size v' (n+m) (xs++news)→w.grownBy w' v.ownBlock→(v'.ownBlock=v.ownBlock∨v'.ownBlock=some w.heap.size)→wpList P ops Q rest (a.put o.dst v') w'):wpList P ops Q (o::rest) a w :=
 wpList_plain hgd fun _ hK=>Zm w s y t ho base e i z size bytes ht hi hz hsize hby hzs hsz v n xs hs hown x m news hy hx h1 h63 hbytes hbase fun v' w' h2 h3 h4=>hK _ _ (h v' w' h2 h3 h4)
end
theorem Yt (w:World)(e:TypeId)(size:Nat)(cs:Array Value)(n:Nat)(hs:cs.size=n*size)(hm:n≤maxLen) :
  (w.alloc (.cells cs e)).ownsRow w.heap.size e size (.slice (some ⟨w.heap.size,0,none⟩) n n) n cs.toList :=
 World.ownsRow_lit w cs n (Xa _) hm hs
def Box (w:World)(g:Nat)(t:TypeId)(cs:Array Value):Prop:=w.heap[g]? = some (.cells cs t (0,0))
section
variable {w w':World} {g:Nat} {t:TypeId} {cs:Array Value}
theorem Box.lt (h:Box w g t cs):g<w.heap.size:=(Array.getElem?_eq_some_iff.1 h).1
theorem Box.cell (h:Box w g t cs)(j:Nat):w.cell? ⟨g,j,none⟩=cs[j]? := cell_of_row w g j cs t (0,0) h
theorem Box.frozen (h:Box w g t cs)(j:Nat):w.frozen? ⟨g,j,none⟩=false:=by unfold Box at h;simp[World.frozen?,h]
theorem Box.new (w:World)(t:TypeId)(cs:Array Value):Box (w.alloc (.cells cs t)) w.heap.size t cs:=heap_alloc_new w _
theorem Box.at_ (hg:g=w.heap.size)(t:TypeId)(cs:Array Value):Box (w.alloc (.cells cs t)) g t cs:=by subst hg;exact Box.new w t cs
theorem Box.alloc (h:Box w g t cs)(o:Obj):Box (w.alloc o) g t cs:=(Below.heap_alloc w o g h.lt).trans h
theorem Box.drew (h:Box w g t cs):Box w.drew g t cs:=h
theorem Box.below {B:Nat}(h:Box w g t cs)(hb:Below B w w')(hg:g<B):Box w' g t cs:=(hb.block g hg).trans h
theorem Box.kept (h:Box w g t cs)(hb:Below w.heap.size w w'):Box w' g t cs:=h.below hb h.lt
theorem Box.far (h:Box w g t cs){p:Addr}(hp:g≠p.block)(u:Value):Box (w.setCell p u) g t cs:=(Below.heap_setCell w p u g hp).trans h
theorem Box.set_ (h:Box w g t cs)(i:Nat)(u:Value):Box (w.setCell ⟨g,i,none⟩ u) g t (cs.setIfInBounds i u):=heap_setCell_same w g i cs t u h
end
theorem Ua {B:Nat}{a w w':World}(h:Below B a w)(hb:Below w.heap.size w w')(hB:B≤w.heap.size):Below B a w':=h.trans (hb.mono hB)
open Tryz
open Go.RowKit
theorem Ugu:(prog.info? 33).map (fun i=>(i.zero,i.size,i.bytes))=some (some (.int .u64 0),1,8):=by kernel_rfl
theorem Ukh (v:Value)(n:Nat)(xs:List Value)(w:World)(hx:Sl w v 1 n xs)(hn:n*8≤140737488355328)(h1:∀u∈xs,u.oneCell'=true) :
  Calls prog 39 #[v] w fun e w'=>∃v',e = .returned v'∧w'.ownsRow w.heap.size 33 1 v' n xs∧Below w.heap.size w w':=by
 obtain⟨i0,hi,hz0,hz1,hz2⟩:=info_parts Ugu;obtain⟨A,c,rfl,hc1,hc2,hA⟩:=hx.form;cases A with
 | none =>
  obtain⟨rfl,rfl⟩:=hA rfl;have hn:xs=[]:=List.eq_nil_of_length_eq_zero (by simpa using hx.len);subst hn;have q:=fun(w:World) (a:Option Addr) (n c n' c':Nat)=>Lib.run_eql_slice_nil (P:=prog) w 31 33 a n c n' c' underlying31
  go_enter func39,ntmps39;go_wp2;go_ret;exact⟨_,rfl,World.ownsRow_nil _ _ _ _,Xb _ _⟩
 | some ad =>
  have q:=fun(w:World) (a:Option Addr) (n c n' c':Nat)=>Lib.run_eql_slice_nil (P:=prog) w 31 33 a n c n' c' underlying31
  go_enter func39,ntmps39;go_wp2_with (at_builtin;refine Ug _ rfl _ _ 31 rfl w.heap.size 33 i0 _ 1 8 underlying31 hi hz0 hz1 hz2 rfl (by decide) _ _ _ rfl (World.ownsRow_made w #[] 0 (Xa _) (Nat.zero_le _) (by simp)) (.slice (some ad) n c) n xs rfl ?qc1 ?qc2 ?qc3 ?qc4 ?qc5 ?_)
  case qc1=>exact hx.alloc _
  case qc2=>exact h1
  case qc3=>simp only[maxLen] at *;omega
  case qc4=>omega
  case qc5=>simp
  intro v' w1 hown hgrow _;go_wp2;go_ret;refine⟨v',rfl,by simpa using hown,?_⟩;exact((Xb _ w).alloc (Xa _) _).grown hgrow (by simp) (by intro k hk;simp[Value.ownBlock] at hk;omega)
def W64 (x:Int):Prop:=0≤x∧x<18446744073709551616
def I64 (x:Int):Prop := -9223372036854775808≤x∧x≤9223372036854775807
structure Acc where
 k:Int
 i:Int
 a:Int
 b:Int
def Acc.ok (x:Acc):Prop:=I64 x.k∧I64 x.i∧W64 x.a∧W64 x.b
def U9 (m:List Int)(x:Acc):List Int×Int :=
 if x.i<0∨x.i≥(m.length:Int) then (m,0)
 else if x.k=0 then (m,m.getD x.i.toNat 0)
 else if x.k=1 then (m.set x.i.toNat x.a,0)
 else if x.k=2 then (if m.getD x.i.toNat 0=x.a then (m.set x.i.toNat x.b,1) else (m,0))
 else if x.k=3 then (m.set x.i.toNat ((m.getD x.i.toNat 0+x.a) % 18446744073709551616),(m.getD x.i.toNat 0+x.a) % 18446744073709551616)
 else (m,0)
theorem Ums (m:List Int)(x:Acc):(U9 m x).1.length=m.length:=by
 unfold U9;repeat' split
 all_goals simp
theorem Ufe {m:List Int}{i:Nat}(h:i<m.length):m.getD i 0∈m:=by
 rw[List.getD_eq_getElem?_getD,Xj h];exact List.getElem_mem h
theorem Uxy {m:List Int}{i:Nat}{y x:Int}(h:x∈m.set i y):x∈m∨x=y:=by
 rcases List.mem_or_eq_of_mem_set h with h|h
 ·exact .inl h
 ·exact .inr h
theorem Uki {m:List Int}{x:Acc}(hm:∀y∈m,W64 y)(hx:x.ok):(∀y∈(U9 m x).1,W64 y)∧W64 (U9 m x).2:=by
 obtain⟨_,_,ha,hb⟩:=hx;have h0:W64 0:=⟨by omega,by omega⟩;have h1:W64 1:=⟨by omega,by omega⟩;have hs:∀z:Int,W64 z→∀y∈m.set x.i.toNat z,W64 y:=fun z hz y hy=>by
  rcases Uxy hy with h|h
  ·exact hm y h
  ·rw[h];exact hz
 unfold U9;split
 ·exact⟨hm,h0⟩
 ·have hi:x.i.toNat<m.length:=by omega
  have hw:=hm _ (Ufe hi);have hmod:W64 ((m.getD x.i.toNat 0+x.a) % 18446744073709551616):=⟨by omega,by omega⟩;split
  ·exact⟨hm,hw⟩
  split
  ·exact⟨hs _ ha,h0⟩
  split
  ·split
   ·exact⟨hs _ hb,h1⟩
   ·exact⟨hm,h0⟩
  split
  ·exact⟨hs _ hmod,hmod⟩
  ·exact⟨hm,h0⟩
def Uz (m:List Int):List Acc→List Int×List Int
 | []=>(m,[])
 | x::l=>((Uz (U9 m x).1 l).1,(U9 m x).2::(Uz (U9 m x).1 l).2)
theorem Ukj (l l':List Acc):∀m,Uz m (l++l')=((Uz (Uz m l).1 l').1,(Uz m l).2++(Uz (Uz m l).1 l').2):=by
 induction l with
 | nil=>intro m;simp[Uz]
 | cons x l ih=>intro m;simp[Uz,ih]
theorem Ugv (m:List Int)(l:List Acc)(x:Acc) :
  (Uz m (l++[x])).1=(U9 (Uz m l).1 x).1∧(Uz m (l++[x])).2=(Uz m l).2++[(U9 (Uz m l).1 x).2]:=by
 rw[Ukj];simp[Uz]
theorem Ui4 (l:List Acc):∀m,(Uz m l).1.length=m.length∧(Uz m l).2.length=l.length:=by
 induction l with
 | nil=>intro m;simp[Uz]
 | cons x l ih=>intro m;simp[Uz,ih,Ums]
theorem Ukk {α:Type}(l:List α)(k:Nat)(h:k<l.length):l.take (k+1)=l.take k++[l[k]]:=by
 rw[List.take_succ_eq_append_getElem h]
def Yu (m:List Int):List Int:=m.take 256
def Zy (n:Nat):List Int:=List.replicate n 0
def Ukl (n:Int):Nat:=if n≤0 then 0 else if n≤256 then n.toNat else 256
theorem Ugw (n:Nat):(Zy n).length=n:=by simp[Zy]
theorem Un2 (n:Nat):∀x∈Zy n,W64 x:=by
 intro x hx;have:x=0:=by simp[Zy] at hx;exact hx.2
 subst this;exact⟨by omega,by omega⟩
theorem Udm {m:List Int}(h:m.length≤256):Yu m=m:=by simp[Yu,List.take_of_length_le h]
theorem Uar {m:List Int}{j:Nat}(x:Int)(h:j<m.length):(m.set j x).getD j 0=x:=by
 simp[List.getD_eq_getElem?_getD,h]
theorem Zn {m:List Int}{j k:Nat}(x:Int)(h:j≠k):(m.set j x).getD k 0=m.getD k 0:=by
 simp[List.getD_eq_getElem?_getD,h]
structure Uw where
 k:Int
 i:Int
 r:Int
 to:Int
 a:Int
def Uw.ok (x:Uw):Prop:=I64 x.k∧I64 x.i∧I64 x.r∧I64 x.to∧W64 x.a
structure Tsk where
 pc:Int
 regs:List Int
 done:Bool
 ans:Int
def Tsk.ok (t:Tsk):Prop:=t.regs.length=32∧(∀x∈t.regs,W64 x)∧I64 t.pc∧I64 t.ans
def Udc (n i:Nat)(x:Uw):Prop:=0≤x.k∧x.k≤6∧0≤x.r∧x.r≤31∧(i:Int)<x.to∧x.to≤(n:Int)
instance (n i:Nat) (x:Uw):Decidable (Udc n i x):=by unfold Udc;exact inferInstance
def Yo:Uw:=⟨0,0,0,0,0⟩
def Ugx (l:List Uw):Prop:=(∀i,i<l.length→Udc l.length i (l.getD i Yo))∧1≤l.length∧l.length≤200
instance (l:List Uw):Decidable (Ugx l):=by unfold Ugx;exact inferInstance
def Uxs (i:Int):Nat:=(i % 32).toNat
theorem Uxz (i:Int):Uxs i<32:=by unfold Uxs;omega
def s64 (a:Int):Int:=(a+9223372036854775808) % 18446744073709551616-9223372036854775808
theorem U35 (a:Int):I64 (s64 a):=by unfold s64 I64;omega
def Ukm (regs:List Int)(x:Uw):Bool :=
 if x.k=3 then decide (regs.getD x.r.toNat 0=x.a)
 else if x.k=4 then decide (regs.getD x.r.toNat 0 % 2=1)
 else decide (regs.getD x.r.toNat 0=regs.getD (Uxs x.i) 0)
def Yw (t:Tsk)(x:Uw):Tsk :=
 if x.k=6 then { t with done:=true,ans:=s64 x.a }
 else if Ukm t.regs x then { t with pc:=x.to } else { t with pc:=t.pc+1 }
def Ufx (code:List Uw):Nat→Tsk→Tsk
 | 0,t=>t
 | n+1,t =>
  if t.done then t
  else if t.pc<0∨t.pc≥(code.length:Int) then { t with done:=true,ans := -1 }
  else if (code.getD t.pc.toNat Yo).k≤2 then t
  else Ufx code n (Yw t (code.getD t.pc.toNat Yo))
def left (code:List Uw)(t:Tsk):Nat:=if t.done then 0 else ((code.length:Int)-t.pc).toNat
def rest (code:List Uw)(t:Tsk):Tsk:=Ufx code (left code t+2) t
theorem Uck {code:List Uw}{t:Tsk}(hs:Ugx code)(h0:0≤t.pc)(h1:t.pc<(code.length:Int))(hd:t.done=false) :
  left code (Yw t (code.getD t.pc.toNat Yo))<left code t:=by
 have hx:=hs.1 t.pc.toNat (by omega);unfold Udc at hx;generalize code.getD t.pc.toNat Yo=x at *;unfold Yw left;rw[hd];split
 ·simp only[if_true,Bool.false_eq_true,if_false];omega
 ·split
  ·simp only[Bool.false_eq_true,if_false];omega
  ·simp only[Bool.false_eq_true,if_false];omega
theorem Upp {code:List Uw}(hs:Ugx code)(n:Nat):∀(t:Tsk) (m:Nat),left code t+2≤n→left code t+2≤m→Ufx code n t=Ufx code m t:=by
 induction n with
 | zero=>intro t m h;omega
 | succ n ih =>
  intro t m hn hm;obtain⟨m,rfl⟩:∃k,m=k+1:=⟨m-1,by omega⟩;simp only[Ufx];split
  ·rfl
  ·rename_i hd;simp only[Bool.not_eq_true] at hd;split
   ·rfl
   ·rename_i hp;split
    ·rfl
    ·have:=Uck hs (by omega) (by omega) hd;by_cases h0:left code t+2≤n+1∧left code t+2≤m+1
     ·exact ih _ _ (by omega) (by omega)
     ·omega
theorem Upq {code:List Uw}{t:Tsk}(h:t.done=true):rest code t=t:=by
 unfold rest;simp only[Ufx];rw[if_pos h]
theorem U1z {code:List Uw}{t:Tsk}(h:t.done=false)(hp:t.pc<0∨t.pc≥(code.length:Int)):rest code t={ t with done:=true,ans := -1 }:=by
 unfold rest;simp only[Ufx];rw[if_neg (by simp[h]),if_pos hp]
theorem Un3 {code:List Uw}{t:Tsk}(h:t.done=false)(h0:0≤t.pc)(h1:t.pc<(code.length:Int))(hk:(code.getD t.pc.toNat Yo).k≤2):rest code t=t:=by
 unfold rest;simp only[Ufx];rw[if_neg (by simp[h]),if_neg (by omega),if_pos hk]
theorem Un4 {code:List Uw}{t:Tsk}(hs:Ugx code)(h:t.done=false)(h0:0≤t.pc)(h1:t.pc<(code.length:Int))(hk:¬(code.getD t.pc.toNat Yo).k≤2) :
  rest code t=rest code (Yw t (code.getD t.pc.toNat Yo)):=by
 have hl:=Uck hs h0 h1 h
 conv=>lhs;unfold rest;simp only[Ufx]
 rw[if_neg (by simp[h]),if_neg (by omega),if_neg hk];exact Upp hs (left code t+1) (Yw t (code.getD t.pc.toNat Yo)) (left code (Yw t (code.getD t.pc.toNat Yo))+2) (by omega) (by omega)
theorem Ury {t:Tsk}{x:Uw}(ht:t.ok)(hx:x.ok)(hp:t.pc<9223372036854775807):(Yw t x).ok:=by
 obtain⟨h1,h2,h3,h4⟩:=ht;unfold Yw;split
 ·exact⟨h1,h2,h3,U35 _⟩
 ·split
  ·exact⟨h1,h2,hx.2.2.2.1,h4⟩
  ·exact⟨h1,h2,by unfold I64 at *;constructor<;>(simp only;omega),h4⟩
theorem U10 {code:List Uw}(hc:∀x∈code,x.ok)(hl:(code.length:Int)≤9223372036854775807)(n:Nat):∀t:Tsk,t.ok→(Ufx code n t).ok:=by
 induction n with
 | zero=>intro t h;exact h
 | succ n ih =>
  intro t h;simp only[Ufx];split
  ·exact h
  ·split
   ·exact⟨h.1,h.2.1,h.2.2.1,by unfold I64;constructor<;>(simp only;omega)⟩
   ·split
    ·exact h
    ·rename_i hp hk;refine ih _ (Ury h (hc _ ?_) (by omega));rw[List.getD_eq_getElem?_getD,Xj (by omega)];exact List.getElem_mem _
theorem Un5 {code:List Uw}(hc:∀x∈code,x.ok)(hl:(code.length:Int)≤9223372036854775807){t:Tsk}(h:t.ok):(rest code t).ok:=U10 hc hl _ t h
structure FT where
 code:List Uw
 t:Tsk
def FT.ok (T:FT):Prop:=T.t.ok∧∀x∈T.code,x.ok
def Uh7:Tsk:=⟨0,Zy 32,false,0⟩
theorem Ueo:Uh7.ok:=⟨by simp[Uh7,Zy],Un2 32,by simp[Uh7,I64],by simp[Uh7,I64]⟩
def Ui (l:List Uw):FT:=if Ugx l then ⟨l,rest l Uh7⟩ else ⟨[],{ Uh7 with done:=true,ans := -1 }⟩
def Umc (k:Int):Int:=if k=0 then 0 else if k=1 then 1 else 3
def moved (r:Tsk)(x:Uw)(d:Int):Tsk:=if x.k=0 then { r with regs:=r.regs.set x.r.toNat d,pc:=r.pc+1 } else { r with pc:=r.pc+1 }
def U8 (T:FT)(m:List Int):FT×List Int :=
 if T.t.done then (T,Yu m)
 else if ¬Ugx T.code then (Ui T.code,Yu m)
 else if (rest T.code T.t).done then (⟨T.code,rest T.code T.t⟩,Yu m)
 else
  (⟨T.code,rest T.code (moved (rest T.code T.t) (T.code.getD (rest T.code T.t).pc.toNat Yo)
   (U9 (Yu m) ⟨Umc (T.code.getD (rest T.code T.t).pc.toNat Yo).k,(T.code.getD (rest T.code T.t).pc.toNat Yo).i,(T.code.getD (rest T.code T.t).pc.toNat Yo).a,0⟩).2)⟩,
   (U9 (Yu m) ⟨Umc (T.code.getD (rest T.code T.t).pc.toNat Yo).k,(T.code.getD (rest T.code T.t).pc.toNat Yo).i,(T.code.getD (rest T.code T.t).pc.toNat Yo).a,0⟩).1)
theorem Urz {code:List Uw}(hs:Ugx code)(n:Nat):∀t:Tsk,left code t+2≤n→(Ufx code n t).done=false →
  0≤(Ufx code n t).pc∧(Ufx code n t).pc<(code.length:Int)∧(code.getD (Ufx code n t).pc.toNat Yo).k≤2:=by
 induction n with
 | zero=>intro t h;omega
 | succ n ih =>
  intro t h;simp only[Ufx];split
  ·rename_i hd;intro h1;rw[hd] at h1;cases h1
  ·rename_i hd;simp only[Bool.not_eq_true] at hd;split
   ·intro h1;simp at h1
   ·rename_i hp;split
    ·rename_i hk;intro _;exact⟨by omega,by omega,hk⟩
    ·rename_i hk;have:=Uck hs (by omega) (by omega) hd;exact ih _ (by omega)
theorem Umt {code:List Uw}{t:Tsk}(hs:Ugx code)(h:(rest code t).done=false) :
  0≤(rest code t).pc∧(rest code t).pc<(code.length:Int)∧(code.getD (rest code t).pc.toNat Yo).k≤2:=Urz hs _ t (Xa _) h
theorem U11 {r:Tsk}{x:Uw}{d:Int}(hr:r.ok)(hd:W64 d)(hp:0≤r.pc)(hp1:r.pc<9223372036854775807):(moved r x d).ok:=by
 obtain⟨h1,h2,h3,h4⟩:=hr;have hpc:I64 (r.pc+1):=⟨by omega,by omega⟩;unfold moved;split
 ·refine⟨by simp[h1],fun y hy=>?_,hpc,h4⟩;rcases Uxy hy with h|h
  ·exact h2 y h
  ·rw[h];exact hd
 ·exact⟨h1,h2,hpc,h4⟩
theorem Ugy {l:List Uw}(h:∀x∈l,x.ok):(Ui l).ok:=by
 unfold Ui;split
 ·rename_i hs;exact⟨Un5 h (by have:=hs.2.2;omega) Ueo,h⟩
 ·obtain⟨h1,h2,h3,h4⟩:=Ueo;exact⟨⟨h1,h2,h3,by simp[I64]⟩,fun x hx=>by simp at hx⟩
theorem Uu8 {m:List Int}(h:∀x∈m,W64 x):∀x∈Yu m,W64 x:=fun x hx=>h x (List.mem_of_mem_take hx)
theorem U4x {x:Uw}(h:x.ok):(Acc.mk (Umc x.k) x.i x.a 0).ok:=by
 refine⟨?_,h.2.1,h.2.2.2.2,by simp[W64]⟩;unfold Umc;split
 ·simp[I64]
 ·split<;>simp[I64]
def Ubb:Nat→FT→List Int→FT×List Int×Nat
 | 0,T,m=>(T,m,0)
 | n+1,T,m=>if T.t.done then (T,m,0) else ((Ubb n (U8 T m).1 (U8 T m).2).1,(Ubb n (U8 T m).1 (U8 T m).2).2.1,(Ubb n (U8 T m).1 (U8 T m).2).2.2+1)
def Ui5 (most:Int):Nat:=(min most 1000).toNat
def Upr (T:FT)(m:List Int)(most:Int):FT×List Int×Nat:=Ubb (Ui5 most) T (Yu m)
theorem Ukn {T:FT}(h:T.t.done=true)(n:Nat)(m:List Int):Ubb n T m=(T,m,0):=by
 cases n with
 | zero=>rfl
 | succ n=>simp only[Ubb];rw[if_pos h]
theorem Ur0 {m:List Int}{i a b:Int}:(U9 m ⟨0,i,a,b⟩).1=m:=by
 unfold U9;repeat' split
 all_goals first|rfl|simp_all
theorem Ucu {T:FT}(hd:T.t.done=false)(n:Nat)(m:List Int) :
  Ubb (n+1) T m=((Ubb n (U8 T m).1 (U8 T m).2).1,(Ubb n (U8 T m).1 (U8 T m).2).2.1,(Ubb n (U8 T m).1 (U8 T m).2).2.2+1):=by
 simp only[Ubb];rw[if_neg (by simp[hd])]
theorem Utx {code:List Uw}{t:Tsk}(hs:Ugx code)(hd:t.done=false)(h0:0≤t.pc)(h1:t.pc<(code.length:Int)){x:Uw}(hx:code.getD t.pc.toNat Yo=x)(hk:x.k=6) :
  rest code t={ t with done:=true,ans:=s64 x.a }:=by
 rw[Un4 hs hd h0 h1 (by rw[hx];omega),hx];unfold Yw;rw[if_pos hk];exact Upq rfl
theorem Uty {code:List Uw}{t:Tsk}{m:List Int}{x:Uw}(hs:Ugx code)(hd:t.done=false)(h0:0≤t.pc)(h1:t.pc<(code.length:Int))(hx:code.getD t.pc.toNat Yo=x)(hk:x.k≤2) :
  U8 ⟨code,t⟩ m=(⟨code,rest code (moved t x (U9 (Yu m) ⟨Umc x.k,x.i,x.a,0⟩).2)⟩,(U9 (Yu m) ⟨Umc x.k,x.i,x.a,0⟩).1):=by
 unfold U8;have e:rest code t=t:=Un3 hd h0 h1 (by rw[hx];exact hk);simp only;rw[if_neg (by simp[hd]),if_neg (by simpa using hs),e,if_neg (by simp[hd]),hx]
theorem Ux0 {c:List Uw}{t:Tsk}{x:Uw}(hs:Ugx c)(hd:t.done=false)(h0:0≤t.pc)(h1:t.pc<(c.length:Int))(hx:c.getD t.pc.toNat Yo=x)(hk:3≤x.k)(hk':x.k≤5)(hj:Ukm t.regs x=true) :
  rest c t=rest c { t with pc:=x.to }:=by
 rw[Un4 hs hd h0 h1 (by rw[hx];omega),hx];unfold Yw;rw[if_neg (by omega),if_pos hj]
theorem Ux1 {c:List Uw}{t:Tsk}{x:Uw}(hs:Ugx c)(hd:t.done=false)(h0:0≤t.pc)(h1:t.pc<(c.length:Int))(hx:c.getD t.pc.toNat Yo=x)(hk:3≤x.k)(hk':x.k≤5)(hj:Ukm t.regs x=false) :
  rest c t=rest c { t with pc:=t.pc+1 }:=by
 rw[Un4 hs hd h0 h1 (by rw[hx];omega),hx];unfold Yw;rw[if_neg (by omega),if_neg (by simp[hj])]
def Ux2 (P:List Int→Prop)(c:List Uw):Prop:=∀x∈c,x.k≤2→∀m:List Int,P m→P (U9 m ⟨Umc x.k,x.i,x.a,0⟩).1
theorem Ups {P:List Int→Prop}{c:List Uw}(h:Ux2 P c):Ux2 P (Ui c).code:=by
 unfold Ui;split
 ·exact h
 ·intro x hx;simp at hx
theorem Uko {P:List Int→Prop}{T:FT}{m:List Int}(h:Ux2 P T.code)(hm:P (Yu m)):P (U8 T m).2∧Ux2 P (U8 T m).1.code:=by
 unfold U8;split
 ·exact⟨hm,h⟩
 ·split
  ·exact⟨hm,Ups h⟩
  ·rename_i hs;simp only[Decidable.not_not] at hs;split
   ·exact⟨hm,h⟩
   ·rename_i hd;simp only[Bool.not_eq_true] at hd;obtain⟨p0,p1,p2⟩:=Umt hs hd;refine⟨h _ ?_ p2 _ hm,h⟩;rw[List.getD_eq_getElem?_getD,Xj (by omega)];exact List.getElem_mem _
def Uh8 (m0:List Int)(A:Int→Prop)(m:List Int):Prop:=m.length=m0.length∧∀i:Nat,¬A (i:Int)→m.getD i 0=m0.getD i 0
theorem Ui6 (m0:List Int)(A:Int→Prop):Uh8 m0 A m0:=⟨rfl,fun _ _=>rfl⟩
theorem Umd {m0 m:List Int}{A:Int→Prop}(h:Uh8 m0 A m)(x:Acc)(hx:x.k=0∨A x.i):Uh8 m0 A (U9 m x).1:=by
 refine⟨by rw[Ums];exact h.1,fun i hi=>?_⟩;have key:∀y,x.i≥0→x.k≠0→(m.set x.i.toNat y).getD i 0=m0.getD i 0:=fun y h0 hk=>by
  rw[Zn _ (fun e=>?_)]
  ·exact h.2 i hi
  ·have:x.i=(i:Int):=by omega
   rcases hx with hx|hx
   ·exact hk hx
   ·rw[this] at hx;exact hi hx
 unfold U9;split
 ·exact h.2 i hi
 ·split
  ·exact h.2 i hi
  split
  ·exact key _ (by omega) (by assumption)
  split
  ·split
   ·exact key _ (by omega) (by assumption)
   ·exact h.2 i hi
  split
  ·exact key _ (by omega) (by assumption)
  ·exact h.2 i hi
theorem Ugz {m0:List Int}{A:Int→Prop}{c:List Uw}(h:∀x∈c,x.k≤2→x.k=0∨A x.i):Ux2 (Uh8 m0 A) c:=by
 intro x hx hk m hm;refine Umd hm _ ?_;rcases h x hx hk with h|h
 ·left;simp only[Umc];rw[if_pos h]
 ·right;exact h
def tab (n:Nat)(f:Nat→Uw):List Uw:=(List.range n).map f
theorem Zi (n:Nat)(f:Nat→Uw):(tab n f).length=n:=by simp[tab]
theorem Uff {n q:Nat}(f:Nat→Uw)(h:q<n):(tab n f).getD q Yo=f q:=by simp[tab,List.getD_eq_getElem?_getD,h]
theorem Ua5 (n:Nat)(f:Nat→Uw):tab (n+1) f=tab n f++[f n]:=by simp[tab,List.range_succ]
theorem Ukp {n:Nat}{f:Nat→Uw}{x:Uw}(h:x∈tab n f):∃q,q<n∧x=f q:=by
 simp only[tab,List.mem_map,List.mem_range] at h;obtain⟨q,h1,h2⟩:=h;exact⟨q,h1,h2.symm⟩
theorem U64 {n:Nat}{f:Nat→Uw}(h:∀q,q<n→(f q).ok):∀x∈tab n f,x.ok:=fun x hx=>by
 obtain⟨q,h1,rfl⟩:=Ukp hx;exact h q h1
theorem Utz {n:Nat}{f:Nat→Uw}(h:∀q,q<n→Udc n q (f q))(h1:1≤n)(h2:n≤200):Ugx (tab n f):=by
 refine⟨fun i hi=>?_,by rw[Zi];exact h1,by rw[Zi];exact h2⟩;rw[Zi] at hi ⊢;rw[Uff f hi];exact h i hi
theorem Ut0 {n:Nat}{f g:Nat→Uw}(h:∀q,q<n→f q=g q):tab n f=tab n g:=by
 unfold tab;exact List.map_congr_left fun q hq=>h q (List.mem_range.1 hq)
def onI (i:Nat)(x:Uw):Uw:=if x.to=0 then { x with to:=(i:Int)+1 } else x
def onL (l:List Uw):List Uw:=tab l.length fun i=>onI i (l.getD i Yo)
theorem Ux3 {n:Nat}{f g:Nat→Uw}(h:∀q,q<n→onI q (f q)=g q):onL (tab n f)=tab n g:=by
 unfold onL;rw[Zi];exact Ut0 fun q hq=>by rw[Uff f hq];exact h q hq
def Ug0 (b ver:Int)(ws:List Int)(q:Nat):Uw :=
 if q=0 then ⟨1,b,0,1,ver+1⟩
 else if q≤ws.length then ⟨1,b+(q:Int),0,(q:Int)+1,ws.getD (q-1) 0⟩
 else if q=ws.length+1 then ⟨1,b,0,(ws.length:Int)+2,ver+2⟩
 else ⟨6,0,0,(ws.length:Int)+3,1⟩
def Ua1 (b ver:Int)(ws:List Int):List Uw:=tab (ws.length+3) (Ug0 b ver ws)
def U36 (b ver:Int)(n:Nat):Prop:=0≤b∧b≤255∧1≤n∧n≤28∧0≤ver∧ver % 2=0
instance (b ver:Int) (n:Nat):Decidable (U36 b ver n):=by unfold U36;exact inferInstance
def Uep (b ver:Int)(ws:List Int):List Uw:=if U36 b ver ws.length then Ua1 b ver ws else []
theorem Uf6 {b ver:Int}{ws:List Int}(h3:1≤ws.length)(h4:ws.length≤28):Ugx (Ua1 b ver ws):=by
 refine Utz (fun q hq=>?_) (by omega) (by omega);unfold Udc Ug0;split
 ·simp only;omega
 ·split
  ·simp only;omega
  ·split
   ·simp only;omega
   ·simp only;omega
def Ueg (b:Int)(n e p r:Nat):Uw :=
 if r=0 then ⟨0,b,0,(p:Int)+1,0⟩
 else if r=1 then ⟨4,0,0,(p:Int)+((n:Int)+4),0⟩
 else if r≤n+1 then ⟨0,b+((r:Int)-1),(r:Int)-1,(p:Int)+(r:Int)+1,0⟩
 else if r=n+2 then ⟨0,b,31,(p:Int)+(r:Int)+1,0⟩
 else ⟨5,0,31,(e:Int)+1,0⟩
def Un6 (b:Int)(n k q:Nat):Uw :=
 if q<k*(n+4) then Ueg b n (k*(n+4)) (q / (n+4)*(n+4)) (q % (n+4))
 else if q=k*(n+4) then ⟨6,0,0,((k*(n+4):Nat):Int)+1,0⟩
 else ⟨6,0,0,((k*(n+4):Nat):Int)+2,1⟩
def Udn (b:Int)(n k:Nat):List Uw:=tab (k*(n+4)+2) (Un6 b n k)
def U37 (b n k:Int):Prop:=0≤b∧b≤255∧1≤n∧n≤28∧1≤k∧k≤6
instance (b n k:Int):Decidable (U37 b n k):=by unfold U37;exact inferInstance
def Uh9 (b n k:Int):List Uw:=if U37 b n k then Udn b n.toNat k.toNat else []
theorem Ucc {n k i r:Nat}(hi:i<k)(hr:r<n+4):i*(n+4)+r<k*(n+4):=by
 have:(i+1)*(n+4)≤k*(n+4):=Nat.mul_le_mul_right _ hi;rw[Nat.succ_mul] at this;omega
theorem Ubi (b:Int){n k i r:Nat}(hi:i<k)(hr:r<n+4):Un6 b n k (i*(n+4)+r)=Ueg b n (k*(n+4)) (i*(n+4)) r:=by
 unfold Un6;rw[if_pos (Ucc hi hr)];have h1:(i*(n+4)+r) / (n+4)=i:=by rw[Nat.add_comm,Nat.add_mul_div_right _ _ (by omega),Nat.div_eq_of_lt hr];omega
 have h2:(i*(n+4)+r) % (n+4)=r:=by rw[Nat.add_comm,Nat.add_mul_mod_self_right];exact Nat.mod_eq_of_lt hr
 rw[h1,h2]
theorem Ukq {n k q:Nat}(h:q<k*(n+4)):∃i r,i<k∧r<n+4∧q=i*(n+4)+r:=by
 refine⟨q / (n+4),q % (n+4),Nat.div_lt_of_lt_mul (by rw[Nat.mul_comm];exact h),Nat.mod_lt _ (by omega),?_⟩;have:=Nat.div_add_mod q (n+4);rw[Nat.mul_comm] at this;exact this.symm
theorem Un7 {n k:Nat}(hn:n≤28)(hk:k≤6):k*(n+4)≤192:=by
 have:=Nat.mul_le_mul hk (show n+4≤32 by omega);omega
theorem Ueq {b:Int}{n k:Nat}(hn:n≤28)(hk:k≤6):Ugx (Udn b n k):=by
 have hE:=Un7 hn hk;refine Utz (fun q hq=>?_) (by omega) (by omega);by_cases h:q<k*(n+4)
 ·obtain⟨i,r,hi,hr,rfl⟩:=Ukq h;rw[Ubi b hi hr];have h1:=Ucc hi hr;have h2:=Ucc hi (show n+3<n+4 by omega);generalize k*(n+4)=e at *;generalize i*(n+4)=p at *;unfold Udc Ueg;split
  ·simp only;omega
  ·split
   ·simp only;omega
   ·split
    ·simp only;omega
    ·split
     ·simp only;omega
     ·simp only;omega
 ·generalize he:k*(n+4)=e at *;unfold Udc Un6;rw[he,if_neg h];split
  ·simp only;omega
  ·simp only;omega
theorem U4y {b:Int}{n k:Nat}(hb:0≤b)(hb':b≤255)(hn:n≤28)(hk:k≤6):∀x∈Udn b n k,x.ok:=by
 have hE:=Un7 hn hk;refine U64 fun q hq=>?_
 by_cases h:q<k*(n+4)
 ·obtain⟨i,r,hi,hr,rfl⟩:=Ukq h;rw[Ubi b hi hr];have h1:=Ucc hi hr;generalize k*(n+4)=e at *;generalize i*(n+4)=p at *;unfold Ueg
  repeat' split
  all_goals exact⟨by simp[I64],by simp only[I64];omega,by simp only[I64];omega,by simp only[I64];omega,by simp[W64]⟩
 ·generalize he:k*(n+4)=e at *;unfold Un6;rw[he,if_neg h];split
  all_goals exact⟨by simp[I64],by simp[I64],by simp[I64],by simp only[I64];omega,by simp[W64]⟩
theorem Uu9 {b:Int}{n k:Nat}:∀x∈Udn b n k,x.k≤2→x.k=0:=by
 intro x hx;obtain⟨q,hq,rfl⟩:=Ukp hx;unfold Un6 Ueg
 repeat' split
 all_goals simp
theorem Ug1 (b:Int)(n k:Nat):(Udn b n k).length=k*(n+4)+2:=Zi _ _
theorem Uia (b:Int){n k i r:Nat}(hi:i<k)(hr:r<n+4):(Udn b n k).getD (i*(n+4)+r) Yo=Ueg b n (k*(n+4)) (i*(n+4)) r:=by
 unfold Udn;rw[Uff _ (by have:=Ucc hi hr;omega),Ubi b hi hr]
theorem U12 (b:Int)(n k:Nat):(Udn b n k).getD (k*(n+4)+1) Yo=⟨6,0,0,((k*(n+4):Nat):Int)+2,1⟩:=by
 unfold Udn;rw[Uff _ (by omega)];unfold Un6;rw[if_neg (by omega),if_neg (by omega)]
section
variable {b:Int} {n k:Nat}
theorem U4z (hn:n≤28)(hk:k≤6)(regs:List Int)(a:Int):rest (Udn b n k) ⟨((k*(n+4)+1:Nat):Int),regs,false,a⟩=⟨((k*(n+4)+1:Nat):Int),regs,true,1⟩:=by
 have hl:=Ug1 b n k;exact Utx (x:=⟨6,0,0,((k*(n+4):Nat):Int)+2,1⟩) (Ueq hn hk) rfl (by simp only;omega) (by simp only;omega) (by simp only[Int.toNat_natCast];exact U12 b n k) rfl
theorem Un8 {i r:Nat}(hi:i<k)(hr:r=0∨(2≤r∧r≤n+2))(regs:List Int)(a:Int):rest (Udn b n k) ⟨((i*(n+4)+r:Nat):Int),regs,false,a⟩=⟨((i*(n+4)+r:Nat):Int),regs,false,a⟩:=by
 have hl:=Ug1 b n k;have h1:=Ucc hi (show r<n+4 by omega);refine Un3 rfl (by simp only;omega) (by simp only;omega) ?_;simp only[Int.toNat_natCast];rw[Uia b hi (by omega)];unfold Ueg;rcases hr with rfl|⟨h2,h3⟩
 ·rw[if_pos rfl];simp
 ·rw[if_neg (by omega),if_neg (by omega)];split
  ·simp
  ·rw[if_pos (by omega)];simp
theorem U13 (hn:n≤28)(hk:k≤6)(hn1:1≤n){i:Nat}(hi:i<k)(regs:List Int)(a:Int)(ho:¬regs.getD 0 0 % 2=1) :
  rest (Udn b n k) ⟨((i*(n+4)+1:Nat):Int),regs,false,a⟩=⟨((i*(n+4)+2:Nat):Int),regs,false,a⟩:=by
 have hl:=Ug1 b n k;have h1:=Ucc hi (show 1<n+4 by omega);have hx:(Udn b n k).getD (i*(n+4)+1) Yo=⟨4,0,0,((i*(n+4):Nat):Int)+((n:Int)+4),0⟩:=by
  rw[Uia b hi (by omega)];unfold Ueg;rw[if_neg (by omega),if_pos rfl]
 refine(Ux1 (x:=⟨4,0,0,((i*(n+4):Nat):Int)+((n:Int)+4),0⟩) (Ueq hn hk) rfl (by simp only;omega) (by simp only;omega) (by simp only[Int.toNat_natCast];exact hx) (by simp only;omega) (by simp only;omega)
  (by unfold Ukm;simp only[List.getD_eq_getElem?_getD] at ho;simp[ho])).trans ?_
 have h:=Un8 (b:=b) (n:=n) hi (r:=2) (.inr ⟨by omega,by omega⟩) regs a;have e:((i*(n+4)+1:Nat):Int)+1=((i*(n+4)+2:Nat):Int):=by omega
 simp only;rw[e];exact h
theorem U14 (hn:n≤28)(hk:k≤6){i:Nat}(hi:i<k)(regs:List Int)(a:Int)(ho:regs.getD 31 0=regs.getD 0 0) :
  rest (Udn b n k) ⟨((i*(n+4)+(n+3):Nat):Int),regs,false,a⟩=⟨((k*(n+4)+1:Nat):Int),regs,true,1⟩:=by
 have hl:=Ug1 b n k;have h1:=Ucc hi (show n+3<n+4 by omega);have hx:(Udn b n k).getD (i*(n+4)+(n+3)) Yo=⟨5,0,31,((k*(n+4)+1:Nat):Int),0⟩:=by
  rw[Uia b hi (by omega)];unfold Ueg;rw[if_neg (by omega),if_neg (by omega),if_neg (by omega),if_neg (by omega)];simp
 refine(Ux0 (x:=⟨5,0,31,((k*(n+4)+1:Nat):Int),0⟩) (Ueq hn hk) rfl (by simp only;omega) (by simp only;omega) (by simp only[Int.toNat_natCast];exact hx) (by simp only;omega) (by simp only;omega)
  (by unfold Ukm Uxs;simp only[List.getD_eq_getElem?_getD] at ho;simp[ho])).trans ?_
 exact U4z hn hk regs a
structure U8n (b:Int) (n k:Nat) (T:FT) (i r:Nat):Prop where
 code:T.code=Udn b n k
 done:T.t.done=false
 pc:T.t.pc=((i*(n+4)+r:Nat):Int)
 look:i<k
 place:r=0∨(2≤r∧r≤n+2)
 regs:T.t.regs.length=32
theorem Un9 (hn1:1≤n)(hn:n≤28)(hk:k≤6){T:FT}{i r:Nat}(h:U8n b n k T i r){m:List Int}(hm:m.length≤256) :
  (r=0→∃d,d=(U9 m ⟨0,b,0,0⟩).2∧U8 T m=(⟨Udn b n k,rest (Udn b n k) ⟨((i*(n+4)+1:Nat):Int),T.t.regs.set 0 d,false,T.t.ans⟩⟩,m)) ∧
  (2≤r→r≤n+1→∃d,d=(U9 m ⟨0,b+((r:Int)-1),0,0⟩).2∧U8 T m=(⟨Udn b n k,⟨((i*(n+4)+(r+1):Nat):Int),T.t.regs.set (r-1) d,false,T.t.ans⟩⟩,m)) ∧
  (r=n+2→∃d,d=(U9 m ⟨0,b,0,0⟩).2∧U8 T m=(⟨Udn b n k,rest (Udn b n k) ⟨((i*(n+4)+(n+3):Nat):Int),T.t.regs.set 31 d,false,T.t.ans⟩⟩,m)):=by
 obtain⟨code,pc,regs,done,ans⟩:=T;obtain⟨hc,hd,hp,hi,hr,h32⟩:=h;simp only at hc hd hp h32;subst hc hd hp;have hl:=Ug1 b n k;have hs:=Ueq (b:=b) hn hk;refine⟨fun hr0=>?_,fun h2 h3=>?_,fun hr0=>?_⟩;rotate_right
 focus
  subst hr0;have hx:(Udn b n k).getD (i*(n+4)+(n+2)) Yo=⟨0,b,31,((i*(n+4):Nat):Int)+((n+2:Nat):Int)+1,0⟩:=by
   rw[Uia b hi (by omega)];unfold Ueg;rw[if_neg (by omega),if_neg (by omega),if_neg (by omega),if_pos rfl]
  have h1:=Ucc hi (show n+2<n+4 by omega)
 rotate_right
 focus
  have hx:(Udn b n k).getD (i*(n+4)+r) Yo=⟨0,b+((r:Int)-1),(r:Int)-1,((i*(n+4):Nat):Int)+(r:Int)+1,0⟩:=by
   rw[Uia b hi (by omega)];unfold Ueg;rw[if_neg (by omega),if_neg (by omega),if_pos (by omega)]
  have h1:=Ucc hi (show r<n+4 by omega)
 rotate_right
 focus
  subst hr0;have hx:(Udn b n k).getD (i*(n+4)+0) Yo=⟨0,b,0,((i*(n+4):Nat):Int)+1,0⟩:=by
   rw[Uia b hi (by omega)];unfold Ueg;rw[if_pos rfl]
  have h1:=Ucc hi (show 0<n+4 by omega)
 all_goals
  refine⟨_,rfl,?_⟩;rw[Uty hs rfl (by simp only;omega) (by simp only;omega) (by simp only[Int.toNat_natCast];exact hx) (by simp only;omega),Udm hm];have e:Umc 0=0:=rfl;simp only[e];rw[Ur0]
 ·unfold moved;rw[if_pos rfl];simp
 ·have e2:moved ⟨((i*(n+4)+r:Nat):Int),regs,false,ans⟩ ⟨0,b+((r:Int)-1),(r:Int)-1,((i*(n+4):Nat):Int)+(r:Int)+1,0⟩ (U9 m ⟨0,b+((r:Int)-1),0,0⟩).2=⟨((i*(n+4)+(r+1):Nat):Int),regs.set (r-1) (U9 m ⟨0,b+((r:Int)-1),0,0⟩).2,false,ans⟩:=by
   unfold moved;rw[if_pos rfl];simp only[Tsk.mk.injEq,and_self,and_true];refine⟨by omega,by rw[show((r:Int)-1).toNat=r-1 by omega]⟩
  rw[e2,Un8 hi (.inr ⟨by omega,by omega⟩)]
 ·have e2:moved ⟨((i*(n+4)+(n+2):Nat):Int),regs,false,ans⟩ ⟨0,b,31,((i*(n+4):Nat):Int)+((n+2:Nat):Int)+1,0⟩ (U9 m ⟨0,b,0,0⟩).2=⟨((i*(n+4)+(n+3):Nat):Int),regs.set 31 (U9 m ⟨0,b,0,0⟩).2,false,ans⟩:=by
   unfold moved;rw[if_pos rfl];simp only[Tsk.mk.injEq,and_self,and_true];refine⟨by omega,by simp⟩
  rw[e2]
end
theorem Upt {b:Int}{n k:Nat}(hn:n≤28)(hk1:1≤k)(hk:k≤6):Ui (Udn b n k)=⟨Udn b n k,Uh7⟩:=by
 have hs:=Ueq (b:=b) hn hk;have h1:=Un8 (b:=b) (n:=n) (k:=k) (i:=0) (r:=0) (by omega) (.inl rfl) (Zy 32) 0;unfold Ui;rw[if_pos hs]
 congr 1
 simpa [Uh7] using h1
open Tryz
def Upu (n:Nat)(p:Int):Nat:=(p % (n:Int)).toNat
theorem Ur1 {n:Nat}(h:0<n)(p:Int):(Upu n p:Int)=p % (n:Int):=by
 have h1:=Int.emod_nonneg p (show(n:Int)≠0 by omega);unfold Upu;omega
theorem Ux4 {n:Nat}(h:0<n)(p:Int) : -(n:Int)<p.tmod n∧p.tmod n<n∧(p.tmod n+n).tmod n=(Upu n p:Int)∧(p.tmod n<0→p.tmod n+n=(Upu n p:Int))∧(¬p.tmod n<0→p.tmod n=(Upu n p:Int)):=by
 have h0:=Int.emod_nonneg p (show(n:Int)≠0 by omega);have h1:=Int.emod_lt_of_pos p (show(0:Int)<(n:Int) by omega);have hc:=Ur1 h p;have he:p.tmod (n:Int)=p % (n:Int)∨(p.tmod (n:Int)=p % (n:Int)-n∧p % (n:Int)≠0):=by
  rw[Int.tmod_eq_emod];split
  ·left;omega
  ·rename_i hh
   right
   refine⟨by omega,fun e=>hh (.inr (Int.dvd_of_emod_eq_zero e))⟩
 have hneg:p.tmod (n:Int)=p % (n:Int)-n→p.tmod (n:Int)<0:=fun e=>by omega
 have hm:(p.tmod n+n).tmod n=p % (n:Int):=by
  rcases he with e|⟨e,_⟩
  ·rw[e,Int.tmod_eq_emod_of_nonneg (by omega),Int.add_emod_right];exact Int.emod_eq_of_lt h0 h1
  ·rw[e,show p % (n:Int)-(n:Int)+(n:Int)=p % (n:Int) by omega,Int.tmod_eq_emod_of_nonneg h0];exact Int.emod_eq_of_lt h0 h1
 refine⟨by omega,by omega,by omega,fun hn=>by omega,fun hn=>by omega⟩
theorem Uib (b ver:Int)(ws:List Int):(Ua1 b ver ws).length=ws.length+3:=Zi _ _
theorem Ukr (b ver:Int)(ws:List Int){q:Nat}(h:q<ws.length+3):(Ua1 b ver ws).getD q Yo=Ug0 b ver ws q:=Uff _ h
section
variable {b:Nat} {ver:Int} {ws:List Int}
theorem Umu {q:Nat}(hq:q≤ws.length+1)(regs:List Int)(a:Int):rest (Ua1 b ver ws) ⟨(q:Int),regs,false,a⟩=⟨(q:Int),regs,false,a⟩:=by
 have hl:=Uib b ver ws;refine Un3 rfl (by simp only;omega) (by simp only;omega) ?_;simp only[Int.toNat_natCast];rw[Ukr _ _ _ (by omega)];unfold Ug0;split
 ·simp
 ·split
  ·simp
  ·rw[if_pos (by omega)];simp
theorem Uic {m:List Int}{i:Nat}(h:i<m.length)(a:Int):U9 m ⟨1,(i:Int),a,0⟩=(m.set i a,0):=by
 unfold U9;rw[if_neg (by simp only;omega)];simp
theorem Ux5 (h1:1≤ws.length)(h2:ws.length≤28){m:List Int}(hm:m.length≤256)(hb:b+ws.length<m.length){q:Nat}(hq:q≤ws.length+1)(regs:List Int)(a:Int) :
  U8 ⟨Ua1 b ver ws,⟨(q:Int),regs,false,a⟩⟩ m =
   (⟨Ua1 b ver ws,rest (Ua1 b ver ws) ⟨((q+1:Nat):Int),regs,false,a⟩⟩,if q=0 then m.set b (ver+1) else if q≤ws.length then m.set (b+q) (ws.getD (q-1) 0) else m.set b (ver+2)):=by
 have hl:=Uib b ver ws;have hx:=Ukr (b:Int) ver ws (q:=q) (by omega);have hs:=Uf6 (b:=(b:Int)) (ver:=ver) h1 h2;rw[Uty (x:=Ug0 b ver ws q) hs rfl (by simp only;omega) (by simp only;omega) (by simp only[Int.toNat_natCast];exact hx) (by unfold Ug0;split;(· simp);split;(· simp);rw[if_pos (by omega)];simp),Udm hm];have hmv:∀x:Uw,x.k=1→∀d,moved ⟨(q:Int),regs,false,a⟩ x d=⟨((q+1:Nat):Int),regs,false,a⟩:=fun x hk d=>by
  unfold moved;rw[if_neg (by omega)];simp
 unfold Ug0;split
 ·rename_i h0;subst h0;rw[hmv _ rfl];have:U9 m ⟨Umc 1,(b:Int),ver+1,0⟩=(m.set b (ver+1),0):=Uic (by omega) _;simp only;rw[this]
  all_goals simp
 ·rename_i h0;split
  ·rename_i h3;rw[hmv _ rfl];have:U9 m ⟨Umc 1,(b:Int)+(q:Int),ws.getD (q-1) 0,0⟩=(m.set (b+q) (ws.getD (q-1) 0),0):=by
    rw[show(b:Int)+(q:Int)=((b+q:Nat):Int) by push_cast;rfl];exact Uic (by omega) _
   simp only;rw[this]
   all_goals simp[h0,h3]
  ·rename_i h3;rw[if_pos (by omega),hmv _ rfl];have:U9 m ⟨Umc 1,(b:Int),ver+2,0⟩=(m.set b (ver+2),0):=Uic (by omega) _;simp only;rw[this]
   all_goals simp[h0,h3]
theorem Ur2 (h1:1≤ws.length)(h2:ws.length≤28):Ui (Ua1 b ver ws)=⟨Ua1 b ver ws,⟨((0:Nat):Int),Zy 32,false,0⟩⟩:=by
 have hs:=Uf6 (b:=(b:Int)) (ver:=ver) h1 h2;have:=Umu (b:=b) (ver:=ver) (ws:=ws) (q:=0) (by omega) (Zy 32) 0;unfold Ui;rw[if_pos hs]
 congr 1
end
theorem Uid {m:List Int}{i:Nat}(h:i<m.length)(a c:Int):(U9 m ⟨0,(i:Int),a,c⟩).2=m.getD i 0:=by
 unfold U9;rw[if_neg (by simp only;omega)];simp
section
variable {b n k:Nat}
theorem U15 (hn1:1≤n)(hn:n≤28)(hk:k≤6){m:List Int}(hm:m.length≤256)(hb:b+n<m.length){i:Nat}(hi:i<k)(d:Nat):∀(r:Nat) (regs:List Int) (N:Nat),regs.length=32→r+d=n+2→2≤r→d+1≤N →
  regs.getD 0 0=m.getD b 0→(∀j,j+2<r→regs.getD (1+j) 0=m.getD (b+1+j) 0) →
  let R:=Ubb N ⟨Udn b n k,⟨((i*(n+4)+r:Nat):Int),regs,false,0⟩⟩ m
  R.1.t.done=true∧R.1.t.ans=1∧R.2.2=d+1∧R.1.t.regs.getD 0 0=m.getD b 0∧R.1.t.regs.length=32∧∀j,j<n→R.1.t.regs.getD (1+j) 0=m.getD (b+1+j) 0:=by
 induction d with
 | zero =>
  intro r regs N hr hrd hr2 hN h0 hw;obtain⟨N,rfl⟩:∃p,N=p+1:=⟨N-1,by omega⟩;obtain⟨x,hx,e⟩:=(Un9 (b:=(b:Int)) hn1 hn hk (T:=⟨Udn b n k,⟨((i*(n+4)+r:Nat):Int),regs,false,0⟩⟩) (i:=i) (r:=r) ⟨rfl,rfl,rfl,hi,.inr ⟨hr2,by omega⟩,hr⟩ hm).2.2 (by omega);rw[Uid (by omega)] at hx;have g31:(regs.set 31 x).getD 31 0=x:=Uar _ (by omega);have g0:(regs.set 31 x).getD 0 0=m.getD b 0:=by rw[Zn _ (by omega)];exact h0
  simp only;rw[Ucu rfl,e];simp only;rw[U14 hn hk hi _ _ (by rw[g31,g0];exact hx),Ukn rfl];refine⟨rfl,rfl,rfl,g0,by simp[hr],fun j hj=>?_⟩;simp only;rw[Zn _ (by omega)];exact hw j (by omega)
 | succ d ih =>
  intro r regs N hr hrd hr2 hN h0 hw;obtain⟨N,rfl⟩:∃p,N=p+1:=⟨N-1,by omega⟩;obtain⟨x,hx,e⟩:=(Un9 (b:=(b:Int)) hn1 hn hk (T:=⟨Udn b n k,⟨((i*(n+4)+r:Nat):Int),regs,false,0⟩⟩) (i:=i) (r:=r) ⟨rfl,rfl,rfl,hi,.inr ⟨hr2,by omega⟩,hr⟩ hm).2.1 hr2 (by omega);rw[show(b:Int)+((r:Int)-1)=((b+(r-1):Nat):Int) by omega,Uid (by omega)] at hx
  have hrec:=ih (r+1) (regs.set (r-1) x) N (by simp[hr]) (by omega) (by omega) (by omega) (by rw[Zn _ (by omega)];exact h0) (fun j hj=>by
   by_cases hje:1+j=r-1
   ·rw[hje,Uar _ (by omega),hx,show b+(r-1)=b+1+j by omega]
   ·rw[Zn _ (by omega)]
    exact hw j (by omega))
  simp only at hrec ⊢;rw[Ucu rfl,e];obtain⟨r1,r2,r3,r4,r5,r6⟩:=hrec;exact⟨r1,r2,by simp only;omega,r4,r5,r6⟩
theorem U16 (hn1:1≤n)(hn:n≤28)(hk1:1≤k)(hk:k≤6){m:List Int}(hm:m.length≤256)(hb:b+n<m.length)(ho:¬m.getD b 0 % 2=1) :
  let R:=Upr (Ui (Udn b n k)) m 999
  R.1.t.done=true∧R.1.t.ans=1∧R.2.2=n+2∧R.1.t.regs.getD 0 0=m.getD b 0∧R.1.t.regs.length=32∧∀j,j<n→R.1.t.regs.getD (1+j) 0=m.getD (b+1+j) 0:=by
 obtain⟨N,hN⟩:∃N:Nat,N+1=Ui5 999∧29≤N∧N≤2000:=⟨998,by unfold Ui5;omega,by omega,by omega⟩;have e:Upr (Ui (Udn b n k)) m 999=Ubb (N+1) (Ui (Udn b n k)) m:=by
  unfold Upr;rw[Udm hm,hN.1]
 have h0:Ui (Udn (b:Int) n k)=⟨Udn b n k,⟨((0*(n+4)+0:Nat):Int),Zy 32,false,0⟩⟩:=by
  rw[Upt hn hk1 hk];simp[Uh7]
 obtain⟨x,hx,e1⟩:=(Un9 (b:=(b:Int)) hn1 hn hk (T:=⟨Udn b n k,⟨((0*(n+4)+0:Nat):Int),Zy 32,false,0⟩⟩) (i:=0) (r:=0) ⟨rfl,rfl,rfl,by omega,.inl rfl,Ugw 32⟩ hm).1 rfl;rw[Uid (by omega)] at hx;have g0:((Zy 32).set 0 x).getD 0 0=x:=Uar _ (by simp[Zy]);rw[U13 hn hk hn1 (by omega) _ _ (by rw[g0,hx];exact ho)] at e1;have hrec:=U15 (k:=k) hn1 hn hk hm hb (i:=0) (by omega) n 2 ((Zy 32).set 0 x) N (by simp[Zy]) (by omega) (by omega) (by omega) (by rw[g0,hx]) (fun j hj=>absurd hj (by omega));simp only at hrec ⊢;rw[e,h0,Ucu rfl,e1];obtain⟨r1,r2,r3,r4,r5,r6⟩:=hrec;exact⟨r1,r2,by simp only;omega,r4,r5,r6⟩
end
open Tryz
open Go.RowKit
def Uam (ms:List Int):List Value:=ms.map (Value.int .u64)
theorem Ug2 {ms:List Int}{j:Nat}(h:j<ms.length):(Uam ms)[j]? = some (.int .u64 (ms.getD j 0)):=by
 simp[Uam,List.getD_eq_getElem?_getD,Xj h]
theorem Ut1 (ms:List Int)(j:Nat)(x:Int):Uam (ms.set j x)=(Uam ms).set j (.int .u64 x):=by simp[Uam,List.map_set]
theorem Ug3 (ms:List Int):(Uam ms).length=ms.length:=by simp[Uam]
def Ug4 (A:Option Addr)(n cap base:Nat)(ms:List Int)(r:Int)(w:World)(e:Ending)(w':World):Prop :=
 e = .returned (.int .u64 r)∧w'.ownsRow base 33 1 (.slice A n cap) n (Uam ms)∧w.grownBy w' (Value.slice A n cap).ownBlock
theorem Ucv {a w:World}{row:Option Nat}(h:a.grownBy w row):a.grownBy w.drew row:=⟨h.os,h.tape,h.output,h.size,h.block⟩
theorem Uas {a w:World}{row:Option Nat}(h:a.grownBy w row)(o:Obj):a.grownBy (w.alloc o) row :=
 ⟨h.os,h.tape,h.output,Xd h.size (by simp),fun i hi hne=>(Below.heap_alloc w o i (Xe hi h.size)).trans (h.block i hi hne)⟩
theorem Udd {a w:World}{g:Nat}(h:a.grownBy w (some g))(off:Nat)(u:Value):a.grownBy (w.setCell ⟨g,off,none⟩ u) (some g) :=
 ⟨h.os,h.tape,h.output,by simpa [World.setCell] using h.size,fun i hi hne=>(Below.heap_setCell w ⟨g,off,none⟩ u i (by rintro rfl;exact hne rfl)).trans (h.block i hi hne)⟩
section
variable {A:Option Addr} {n cap base:Nat} {ms:List Int} {k i a b:Int} {w:World}
theorem U38 (hout:i<0∨(n:Int)≤i)(hown:w.ownsRow base 33 1 (.slice A n cap) n (Uam ms)) :
  Calls prog 144 #[.slice A n cap,.agg #[.int .i64 k,.int .i64 i,.int .u64 a,.int .u64 b]] w (Ug4 A n cap base ms 0 w):=by
 have H:=Qd hown;clear hown;have fin:∀o1 o2 o3,Ug4 A n cap base ms 0 w (.returned (.int .u64 0)) (((w.alloc o1).alloc o2).alloc o3).drew:=fun o1 o2 o3 =>
  ⟨rfl,((H.out.alloc _).alloc _).alloc _,Ucv (Uas (Uas (Uas (World.grownBy.refl w _) _) _) _)⟩
 have F:=Qd fin;clear fin;rcases hout with hout|hout
 all_goals
  by_cases h0:k=0
  ·subst h0;go_enter func144,ntmps144;go_wp2;go_region
   all_goals go_wp2
   all_goals (go_ret;exact F.out _ _ _)
  by_cases h1:k=1
  ·subst h1;go_enter func144,ntmps144;go_wp2;go_region
   all_goals go_wp2
   all_goals (go_ret;exact F.out _ _ _)
  by_cases h2:k=2
  ·subst h2;go_enter func144,ntmps144;go_wp2;go_region
   all_goals go_wp2
   all_goals (go_ret;exact F.out _ _ _)
  by_cases h3:k=3
  ·subst h3;go_enter func144,ntmps144;go_wp2;go_region
   all_goals go_wp2
   all_goals (go_ret;exact F.out _ _ _)
  go_enter func144,ntmps144;go_wp2;go_region
  all_goals go_wp2
  all_goals (go_ret;exact F.out _ _ _)
end
open Tryz
open Go.RowKit
section
variable {g n cap base:Nat} {ms:List Int} {k a b:Int} {j:Nat} {w:World}
theorem Uie {r:Int}(hown:w.ownsRow base 33 1 (.slice (some ⟨g,0,none⟩) n cap) n (Uam ms)) :
  (w.setCell ⟨g,j,none⟩ (.int .u64 r)).ownsRow base 33 1 (.slice (some ⟨g,0,none⟩) n cap) n (Uam (ms.set j r)):=by
 rw[Ut1];exact(hown.stored j _).1
theorem Ufg {e:TypeId}{sz:Nat}{v:Value}{xs:List Value}(h:w.ownsRow base e sz v n xs):w.drew.ownsRow base e sz v n xs:=h
theorem Uco {a w:World}{row:Option Nat}(h:a.grownBy w row)(q:Nat):a.grownBy (w.drewN q) row:=⟨h.os,h.tape,h.output,h.size,h.block⟩
theorem Ug5 (hj:j<n)(hown:w.ownsRow base 33 1 (.slice (some ⟨g,0,none⟩) n cap) n (Uam ms)) :
  w.cell? ⟨g,j,none⟩=some (.int .u64 (ms.getD j 0))∧w.frozen? ⟨g,j,none⟩=false∧(j:Int)<(n:Int)∧g<w.heap.size∧g<w.heap.size+1∧g<w.heap.size+1+1 ∧
  Hid (w.ownsRow base 33 1 (.slice (some ⟨g,0,none⟩) n cap) n (Uam ms))∧Hid (w.grownBy w (some g)):=by
 have hl:ms.length=n:=by have:=hown.1;rw[Ug3] at this;omega
 have hc:w.cell? ⟨g,j,none⟩=some (.int .u64 (ms.getD j 0)):=by rw[hown.cellAt j (by omega),Ug2 (by omega)]
 have hg:g<w.heap.size:=(hown.lt g rfl).2;exact⟨hc,hown.frozenAt j,by omega,hg,by omega,by omega,Qd hown,Qd (World.grownBy.refl w _)⟩
theorem U40 (hj:j<n)(hown:w.ownsRow base 33 1 (.slice (some ⟨g,0,none⟩) n cap) n (Uam ms)) :
  Calls prog 144 #[.slice (some ⟨g,0,none⟩) n cap,.agg #[.int .i64 0,.int .i64 (j:Int),.int .u64 a,.int .u64 b]] w (Ug4 (some ⟨g,0,none⟩) n cap base ms (ms.getD j 0) w):=by
 obtain⟨hc,hf,hj',hg,hg1,hg2,H,F⟩:=Ug5 hj hown;clear hown;generalize ms.getD j 0=r at *;go_enter func144,ntmps144;go_wp2;go_region
 all_goals go_wp2
 all_goals (go_ret;refine⟨rfl,?_,?_⟩)
 all_goals (repeat (first|exact H.out|exact F.out|apply Ufg|apply own_drewN|apply Uie|apply World.ownsRow.alloc|apply Ucv|apply Uco|apply Uas|apply Udd))
theorem U17 (hj:j<n)(hown:w.ownsRow base 33 1 (.slice (some ⟨g,0,none⟩) n cap) n (Uam ms)) :
  Calls prog 144 #[.slice (some ⟨g,0,none⟩) n cap,.agg #[.int .i64 1,.int .i64 (j:Int),.int .u64 a,.int .u64 b]] w (Ug4 (some ⟨g,0,none⟩) n cap base (ms.set j a) 0 w):=by
 obtain⟨hc,hf,hj',hg,hg1,hg2,H,F⟩:=Ug5 hj hown;clear hown;generalize ms.getD j 0=r at *;go_enter func144,ntmps144;go_wp2;go_region
 all_goals go_wp2
 all_goals (go_ret;refine⟨rfl,?_,?_⟩)
 all_goals (repeat (first|exact H.out|exact F.out|apply Ufg|apply own_drewN|apply Uie|apply World.ownsRow.alloc|apply Ucv|apply Uco|apply Uas|apply Udd))
theorem U41 (hj:j<n)(he:ms.getD j 0=a)(hown:w.ownsRow base 33 1 (.slice (some ⟨g,0,none⟩) n cap) n (Uam ms)) :
  Calls prog 144 #[.slice (some ⟨g,0,none⟩) n cap,.agg #[.int .i64 2,.int .i64 (j:Int),.int .u64 a,.int .u64 b]] w (Ug4 (some ⟨g,0,none⟩) n cap base (ms.set j b) 1 w):=by
 obtain⟨hc,hf,hj',hg,hg1,hg2,H,F⟩:=Ug5 hj hown;clear hown;rw[he] at hc;clear he;have hne:(a != a)=false:=by simp
 go_enter func144,ntmps144;go_wp2;go_region
 all_goals go_wp2
 all_goals go_quiet (fail)
 all_goals go_wp2
 all_goals (go_ret;refine⟨rfl,?_,?_⟩)
 all_goals (repeat (first|exact H.out|exact F.out|apply Ufg|apply own_drewN|apply Uie|apply World.ownsRow.alloc|apply Ucv|apply Uco|apply Uas|apply Udd))
theorem Uva (hj:j<n)(he:ms.getD j 0≠a)(hown:w.ownsRow base 33 1 (.slice (some ⟨g,0,none⟩) n cap) n (Uam ms)) :
  Calls prog 144 #[.slice (some ⟨g,0,none⟩) n cap,.agg #[.int .i64 2,.int .i64 (j:Int),.int .u64 a,.int .u64 b]] w (Ug4 (some ⟨g,0,none⟩) n cap base ms 0 w):=by
 obtain⟨hc,hf,hj',hg,hg1,hg2,H,F⟩:=Ug5 hj hown;clear hown;generalize ms.getD j 0=r at *;have hne:(r != a)=true:=by simpa using he
 go_enter func144,ntmps144;go_wp2;go_region
 all_goals go_wp2
 all_goals go_quiet (fail)
 all_goals go_wp2
 all_goals (go_ret;refine⟨rfl,?_,?_⟩)
 all_goals (repeat (first|exact H.out|exact F.out|apply Ufg|apply own_drewN|apply Uie|apply World.ownsRow.alloc|apply Ucv|apply Uco|apply Uas|apply Udd))
theorem U42 (hj:j<n)(ha:W64 a)(hr:W64 (ms.getD j 0))(hown:w.ownsRow base 33 1 (.slice (some ⟨g,0,none⟩) n cap) n (Uam ms)) :
  Calls prog 144 #[.slice (some ⟨g,0,none⟩) n cap,.agg #[.int .i64 3,.int .i64 (j:Int),.int .u64 a,.int .u64 b]] w (Ug4 (some ⟨g,0,none⟩) n cap base (ms.set j ((ms.getD j 0+a) % 18446744073709551616)) ((ms.getD j 0+a) % 18446744073709551616) w):=by
 obtain⟨hc,hf,hj',hg,hg1,hg2,H,F⟩:=Ug5 hj hown;clear hown;obtain⟨ha0,ha1⟩:=ha;obtain⟨hr0,hr1⟩:=hr;have hw:IntKind.u64.wrap (ms.getD j 0+a)=(ms.getD j 0+a) % 18446744073709551616:=by rw[Xg]
 generalize ms.getD j 0=r at *;go_enter func144,ntmps144;go_wp2;go_region
 all_goals go_wp2
 all_goals go_region
 all_goals go_wp2
 all_goals (go_ret;refine⟨rfl,?_,?_⟩)
 all_goals (repeat (first|exact H.out|exact F.out|apply Ufg|apply own_drewN|apply Uie|apply World.ownsRow.alloc|apply Ucv|apply Uco|apply Uas|apply Udd))
theorem U18 {i:Int}{A:Option Addr}(h0:k≠0)(h1:k≠1)(h2:k≠2)(h3:k≠3)(hown:w.ownsRow base 33 1 (.slice A n cap) n (Uam ms)) :
  Calls prog 144 #[.slice A n cap,.agg #[.int .i64 k,.int .i64 i,.int .u64 a,.int .u64 b]] w (Ug4 A n cap base ms 0 w):=by
 have H:=Qd hown;have F:=Qd (World.grownBy.refl w (Value.slice A n cap).ownBlock);clear hown;go_enter func144,ntmps144;go_wp2;go_region
 all_goals go_wp2
 all_goals (go_ret;refine⟨rfl,?_,?_⟩)
 all_goals (repeat (first|exact H.out|exact F.out|apply Ufg|apply own_drewN|apply Uie|apply World.ownsRow.alloc|apply Ucv|apply Uco|apply Uas|apply Udd))
end
open Tryz
open Go.RowKit
def Yx (w:World)(v:Value)(ms:List Int):Prop:=Sl w v 1 ms.length (Uam ms)∧∀x∈ms,W64 x
theorem Yx.below {w w':World}{v:Value}{ms:List Int}(h:Yx w v ms)(hb:Below w.heap.size w w'):Yx w' v ms:=⟨h.1.below hb,h.2⟩
theorem Yx.alloc {w:World}{v:Value}{ms:List Int}(h:Yx w v ms)(o:Obj):Yx (w.alloc o) v ms:=⟨h.1.alloc o,h.2⟩
theorem Yx.drew {w:World}{v:Value}{ms:List Int}(h:Yx w v ms):Yx w.drew v ms:=h
def Own (w:World)(base:Nat)(v:Value)(ms:List Int):Prop:=w.ownsRow base 33 1 v ms.length (Uam ms)∧∀x∈ms,W64 x
theorem Own.words {w:World}{base:Nat}{v:Value}{ms:List Int}(h:Own w base v ms):Yx w v ms:=⟨Sl.of_own h.1,h.2⟩
def Acc.val (x:Acc):Value := .agg #[.int .i64 x.k,.int .i64 x.i,.int .u64 x.a,.int .u64 x.b]
theorem U39 {base:Nat}{v:Value}{ms:List Int}{x:Acc}{w:World}(hx:x.ok)(hown:Own w base v ms) :
  Calls prog 144 #[v,x.val] w fun e w'=>e = .returned (.int .u64 (U9 ms x).2)∧Own w' base v (U9 ms x).1∧w.grownBy w' v.ownBlock:=by
 obtain⟨h,hm⟩:=hown;obtain⟨k,i,a,b⟩:=x;have hpost:∀(A:Option Addr) (cap:Nat) (ms':List Int) (r:Int),v = .slice A ms.length cap→ms'.length=ms.length→(U9 ms ⟨k,i,a,b⟩)=(ms',r) →
   Calls prog 144 #[.slice A ms.length cap,.agg #[.int .i64 k,.int .i64 i,.int .u64 a,.int .u64 b]] w (Ug4 A ms.length cap base ms' r w) →
   Calls prog 144 #[v,Acc.val ⟨k,i,a,b⟩] w fun e w'=>e = .returned (.int .u64 (U9 ms ⟨k,i,a,b⟩).2)∧Own w' base v (U9 ms ⟨k,i,a,b⟩).1∧w.grownBy w' v.ownBlock:=by
  intro A cap ms' r hv hl he hc;subst hv;refine hc.mono ?_;rintro e w' ⟨rfl,ho,hg⟩;have hok:=(Uki (x:=⟨k,i,a,b⟩) hm hx).1;rw[he] at hok ⊢;exact⟨rfl,⟨by rw[hl];exact ho,hok⟩,hg⟩
 obtain⟨_,_,ha,hb⟩:=hx;by_cases hout:i<0∨(ms.length:Int)≤i
 ·have he:U9 ms ⟨k,i,a,b⟩=(ms,0):=by unfold U9;rw[if_pos (by simpa using hout)]
  rcases h.2 with ⟨rfl,h0⟩|⟨g,cap,cur,rfl,_⟩
  ·have h':w.ownsRow base 33 1 (.slice none ms.length 0) ms.length (Uam ms):=by rw[h0];rw[h0] at h;exact h
   exact hpost none 0 ms 0 (by rw[h0]) rfl he (U38 hout h')
  ·exact hpost _ cap ms 0 rfl rfl he (U38 hout h)
 ·rcases h.2 with ⟨rfl,h0⟩|⟨g,cap,cur,rfl,_⟩
  ·omega
  ·obtain⟨j,rfl⟩:=Int.eq_ofNat_of_zero_le (show 0≤i by omega);have hj:j<ms.length:=by omega
   have hw:=hm _ (Ufe hj);have hn:¬((j:Int)<0∨(j:Int)≥(ms.length:Int)):=by omega
   by_cases h0:k=0
   ·subst h0;exact hpost _ cap ms (ms.getD j 0) rfl rfl (by simp only[U9];rw[if_neg hn];simp) (U40 hj h)
   by_cases h1:k=1
   ·subst h1;exact hpost _ cap (ms.set j a) 0 rfl (by simp) (by simp only[U9];rw[if_neg hn];simp) (U17 hj h)
   by_cases h2:k=2
   ·subst h2;by_cases hs:ms.getD j 0=a
    ·exact hpost _ cap (ms.set j b) 1 rfl (by simp) (by simp only[U9];rw[if_neg hn];simp only[Int.toNat_natCast,hs];simp) (U41 hj hs h)
    ·exact hpost _ cap ms 0 rfl rfl (by simp only[U9];rw[if_neg hn];simp only[Int.toNat_natCast,hs];simp) (Uva hj hs h)
   by_cases h3:k=3
   ·subst h3;exact hpost _ cap _ _ rfl (by simp) (by simp only[U9];rw[if_neg hn];simp) (U42 hj ha hw h)
   exact hpost _ cap ms 0 rfl rfl (by simp only[U9];rw[if_neg hn];simp only[if_neg h0,if_neg h1,if_neg h2,if_neg h3]) (U18 h0 h1 h2 h3 h)
theorem Uj3 (ms:List Int):∀u∈Uam ms,u.oneCell'=true:=by
 intro u hu;simp only[Uam,List.mem_map] at hu;obtain⟨x,_,rfl⟩:=hu
 rfl
theorem Ux6 (ms:List Int)(k:Nat):Uam (ms.take k)=(Uam ms).take k:=by simp[Uam,List.map_take]
theorem Sl.take_ {w:World}{A:Option Addr}{c size n k:Nat}{xs:List Value}(h:Sl w (.slice A n c) size n xs)(hk:k≤n):Sl w (.slice A k c) size k (xs.take (k*size)):=by
 obtain⟨hl,A',c',e,h1,h2,h0,h3⟩:=h;injection e with e1 e2 e3
 subst e1 e3;refine⟨?_,A,c,rfl,by omega,h2,fun e=>⟨by have:=h0 e;omega,(h0 e).2⟩,fun hn=>?_⟩
 ·rw[List.length_take,hl];exact Nat.min_eq_left (Nat.mul_le_mul_right _ hk)
 ·obtain⟨ad,rfl,hb,hc⟩:=h3 (by omega);refine⟨ad,rfl,hb,fun j u hu=>hc j u ?_⟩;rw[List.getElem?_take] at hu;split at hu
  ·exact hu
  ·cases hu
def Ubj (ms:List Int)(w:World)(e:Ending)(w':World):Prop:=∃v',e = .returned v'∧Own w' w.heap.size v' ms∧Below w.heap.size w w'
theorem Upv {v:Value}{ms:List Int}{w:World}(h:Yx w v ms) :
  Calls prog 143 #[v] w (Ubj (Yu ms) w):=by
 obtain⟨A,c,rfl,hc1,hc2,hA⟩:=h.1.form;have fin:∀k,k=min ms.length 256→Calls prog 39 #[.slice A k c] w (Ubj (Yu ms) w):=by
  intro k hk;have hs:=Sl.take_ h.1 (k:=k) (by omega);rw[Nat.mul_one,←Ux6] at hs;refine(Ukh _ k _ w hs (by omega) (Uj3 _)).mono ?_;rintro e w' ⟨v',rfl,ho,hb⟩;have hcount:Yu ms=ms.take k:=by
   unfold Yu;by_cases h256:ms.length≤256
   ·rw[List.take_of_length_le (by omega),List.take_of_length_le (by omega)]
   ·rw[show k=256 by omega]
  refine⟨v',rfl,⟨?_,fun x hx=>h.2 x (List.mem_of_mem_take hx)⟩,hb⟩;rw[hcount,List.length_take,show min k ms.length=k by omega];exact ho
 have F:=Qd fin;clear fin;unfold maxLen at hc2;by_cases h256:ms.length≤256
 ·have h0:(ms.length:Int)≤256:=by omega
  have h1:(ms.length:Int)≤(c:Int):=by omega
  go_enter func143,ntmps143;go_wp2_with fail;refine(F.out ms.length (by omega)).mono ?_;rintro e w' ⟨v',rfl,hb⟩;have HB:=Qd hb;clear hb;go_wp2;go_ret;exact⟨v',rfl,HB.out⟩
 ·have h0:(256:Int)<(ms.length:Int):=by omega
  have h1:(256:Int)≤(c:Int):=by omega
  go_enter func143,ntmps143;go_wp2_with fail;refine(F.out 256 (by omega)).mono ?_;rintro e w' ⟨v',rfl,hb⟩;have HB:=Qd hb;clear hb;go_wp2;go_ret;exact⟨v',rfl,HB.out⟩
def U8o (ms:List Int)(r:Int)(w:World)(e:Ending)(w':World):Prop:=∃v',e = .returned (.tuple #[v',.int .u64 r])∧Own w' w.heap.size v' ms∧Below w.heap.size w w'
theorem Ufh {w:World}{base base':Nat}{v:Value}{ms:List Int}(h:Own w base v ms)(hb:base'≤base):Own w base' v ms:=by
 obtain⟨⟨h1,h2⟩,h3⟩:=h;refine⟨⟨h1,?_⟩,h3⟩;rcases h2 with h2|⟨g,cap,cur,e,hg,r⟩
 ·exact .inl h2
 ·exact .inr ⟨g,cap,cur,e,by omega,r⟩
theorem U43 {v:Value}{ms:List Int}{x:Acc}{w:World}(hx:x.ok)(h:Yx w v ms) :
  Calls prog 114 #[v,x.val] w (U8o (U9 (Yu ms) x).1 (U9 (Yu ms) x).2 w):=by
 have h':=h.alloc (.cells #[.int .i64 x.k,.int .i64 x.i,.int .u64 x.a,.int .u64 x.b] 199);have H:=Qd h';have X:=Qd hx;clear h h' hx;unfold Acc.val;go_enter func114,ntmps114;go_wp2_with fail;refine(Upv H.out).mono ?_;rintro e w' ⟨v',rfl,ho,hb⟩;have e0:=fun j=>hb.cell (p:=⟨w.heap.size,j,none⟩) (by simp)
 have HO:=Qd ho;have HB:=Qd hb;clear ho hb;go_wp2_with fail;refine(U39 (x:=x) X.out HO.out).mono ?_;rintro e w2 ⟨rfl,ho2,hg2⟩;have hlt:=fun k hk=>(HO.out.1.lt k hk).1
 have hb2:Below w.heap.size w w2:=((Xb _ w).alloc (Xa _) _).trans ((HB.out.mono (by simp)).grown hg2 (by have:=HB.out.size;simp at this;omega) (fun k hk=>by have:=hlt k hk;simp at this;omega));have HO2:=Qd (Ufh (base':=w.heap.size) ho2 (by simp));have HB2:=Qd hb2;clear ho2 hb2 hg2 hlt;go_wp2;go_ret2;exact⟨v',rfl,HO2.out,HB2.out⟩
def Acc.cells (x:Acc):List Value:=[.int .i64 x.k,.int .i64 x.i,.int .u64 x.a,.int .u64 x.b]
def U6y (w:World)(v:Value)(l:List Acc):Prop:=Sl w v 4 l.length (l.flatMap Acc.cells)∧∀x∈l,x.ok
theorem U6y.below {w w':World}{v:Value}{l:List Acc}(h:U6y w v l)(hb:Below w.heap.size w w'):U6y w' v l:=⟨h.1.below hb,h.2⟩
theorem Ufi {α:Type}(f:α→List Value)(n:Nat)(l:List α)(hf:∀x∈l,(f x).length=n)(k j:Nat)(hk:k<l.length)(hj:j<n):(l.flatMap f)[k*n+j]? = (f l[k])[j]? := by
 induction l generalizing k with
 | nil=>simp at hk
 | cons x l ih =>
  rw[List.flatMap_cons];cases k with
  | zero =>
   rw[List.getElem?_append_left (by rw[hf x (by simp)];omega)];simp
  | succ k =>
   have e:(k+1)*n+j=n+(k*n+j):=by rw[Nat.add_mul];omega
   rw[List.getElem?_append_right (by rw[hf x (by simp)];omega),hf x (by simp),e,Nat.add_sub_cancel_left,ih (fun y hy=>hf y (by simp[hy])) k (by simpa using hk)];simp
theorem U6y.at_ {w:World}{A:Option Addr}{c:Nat}{l:List Acc}{k:Nat}(h:U6y w (.slice A l.length c) l)(hk:k<l.length) :
  ∃b off,A=some ⟨b,off,none⟩∧b<w.heap.size∧w.cell? ⟨b,off+k*4,none⟩=some (.int .i64 l[k].k)∧w.cell? ⟨b,off+k*4+1,none⟩=some (.int .i64 l[k].i) ∧
   w.cell? ⟨b,off+k*4+2,none⟩=some (.int .u64 l[k].a)∧w.cell? ⟨b,off+k*4+3,none⟩=some (.int .u64 l[k].b):=by
 obtain⟨b,off,rfl,hb,hc⟩:=h.1.at_ (by omega) (by omega);have hg:=fun j hj=>Ufi Acc.cells 4 l (fun _ _=>rfl) k j hk hj
 refine⟨b,off,rfl,hb,?_,?_,?_,?_⟩
 ·have:=hc (k*4+0) _ (by rw[hg 0 (by omega)];rfl);simpa using this
 ·have:=hc (k*4+1) _ (by rw[hg 1 (by omega)];rfl);rw[Nat.add_assoc];exact this
 ·have:=hc (k*4+2) _ (by rw[hg 2 (by omega)];rfl);rw[Nat.add_assoc];exact this
 ·have:=hc (k*4+3) _ (by rw[hg 3 (by omega)];rfl);rw[Nat.add_assoc];exact this
def U65 (ms U8r:List Int)(w:World)(e:Ending)(w':World):Prop:=∃v1 v2,e = .returned (.tuple #[v1,v2])∧Own w' w.heap.size v1 ms∧Own w' w.heap.size v2 U8r∧Below w.heap.size w w'
def Umv (ms:List Int)(l:List Acc)(w:World)(vn:Value)(k:Nat)(vt:Value)(wr:World):Prop :=
 Own wr w.heap.size vn (Uz ms (l.take k)).1∧Own wr w.heap.size vt (Uz ms (l.take k)).2∧(vt.ownBlock=none∨vt.ownBlock≠vn.ownBlock)∧Below w.heap.size w wr
theorem U19 {ms:List Int}{l:List Acc}{w wr w2:World}{vn vt:Value}{k:Nat}{o:Obj}(h:Umv ms l w vn k vt wr)(hk:k<l.length)
  (ho:Own w2 w.heap.size vn (U9 (Uz ms (l.take k)).1 l[k]).1) (hg:(wr.alloc o).grownBy w2 vn.ownBlock) :
  w2.ownsRow w.heap.size 33 1 vt (Uz ms (l.take k)).2.length (Uam (Uz ms (l.take k)).2)∧Own w2 w.heap.size vn (Uz ms (l.take (k+1))).1∧Below w.heap.size w w2:=by
 obtain⟨h1,h2,h3,h4⟩:=h;refine⟨(h2.1.alloc o).kept hg h3,?_,?_⟩
 ·rw[Ukk l k hk,(Ugv _ _ _).1];exact ho
 ·exact(h4.alloc h4.size _).grown hg (by have:=h4.size;simp;omega) (fun j hj=>(h1.1.lt j hj).1)
theorem Ur3 {a b:Option Nat}(h:a=none∨a≠b):b=none∨b≠a:=by
 rcases h with h|h
 ·subst h;cases b<;>simp
 ·exact .inr (Ne.symm h)
theorem Ux7 {ms:List Int}{l:List Acc}{w wr w2 w3:World}{vn vt v':Value}{k:Nat}{o:Obj}(h:Umv ms l w vn k vt wr)(hk:k<l.length)(hx:(l[k]).ok)
  (S:w2.ownsRow w.heap.size 33 1 vt (Uz ms (l.take k)).2.length (Uam (Uz ms (l.take k)).2)∧Own w2 w.heap.size vn (Uz ms (l.take (k+1))).1∧Below w.heap.size w w2)
  (ho:w3.ownsRow w.heap.size 33 1 v' ((Uz ms (l.take k)).2.length+1) (Uam (Uz ms (l.take k)).2++[.int .u64 (U9 (Uz ms (l.take k)).1 l[k]).2]))
  (hg:(w2.alloc o).grownBy w3 vt.ownBlock) (hat:v'.ownBlock=vt.ownBlock∨v'.ownBlock=some (w2.heap.size+1)):Umv ms l w vn (k+1) v' w3:=by
 obtain⟨h1,h2,h3,h4⟩:=h;obtain⟨s1,s2,s3⟩:=S;have hs:(Uz ms (l.take (k+1))).2=(Uz ms (l.take k)).2++[(U9 (Uz ms (l.take k)).1 l[k]).2]:=by rw[Ukk l k hk,(Ugv _ _ _).2]
 refine⟨⟨(s2.1.alloc o).kept hg (Ur3 h3),s2.2⟩,?_,?_,?_⟩
 ·refine⟨?_,?_⟩
  ·rw[hs];simpa [Uam] using ho
  ·rw[hs];intro y hy;rcases List.mem_append.1 hy with hy|hy
   ·exact h2.2 y hy
   ·simp at hy;subst hy;exact(Uki h1.2 hx).2
 ·rcases hat with e|e
  ·rw[e];exact h3
  ·right
   rw[e];intro e2;have:=(s2.1.lt _ e2.symm).2;omega
 ·exact(s3.alloc s3.size _).grown hg (by have:=s3.size;simp;omega) (fun j hj=>(s1.lt j hj).1)
theorem U2a {v vl:Value}{ms:List Int}{l:List Acc}{w:World}(h:Yx w v ms)(hl:U6y w vl l)(hsz:l.length≤4096) :
  Calls prog 142 #[v,vl] w (U65 (Uz (Yu ms) l).1 (Uz (Yu ms) l).2 w):=by
 obtain⟨i0,hi,hz0,hz1,hz2⟩:=info_parts Ugu;obtain⟨A,c,rfl,hc1,hc2,hA⟩:=hl.1.form;have H:=Qd h;have L:=Qd hl;clear h hl hA hc1 hc2;go_enter func142,ntmps142;go_wp2_with fail;refine(Upv H.out).mono ?_;rintro e w1 ⟨vn,rfl,ho,hb⟩;have L1:=Qd (L.out.below hb);have R:Umv (Yu ms) l w vn 0 (.slice none 0 0) w1:=⟨by simpa [Uz] using ho,⟨by simpa [Uz,Uam] using World.ownsRow_nil _ _ _ _,by simp[Uz]⟩,.inl rfl,hb⟩;have HB:=Qd hb;have HR:=Qd R;clear ho hb R;go_wp2_with fail;have hlen:(l.length:Int)≤4096:=by omega
 go_loopw [7,14] (fun vt i wr=>∃k:Nat,k≤l.length∧i = .int .i64 (k:Int)∧Umv (Yu ms) l w vn k vt wr) (fun _ i _=>l.length-(intOf i).toNat)
 case atStart=>exact⟨0,Nat.zero_le _,rfl,HR.out⟩
 case round =>
  obtain⟨k,hk,rfl,hR⟩:=hrel;have HRk:=Qd hR;clear hR HR H HB L1;by_cases hlt:k<l.length
  ·obtain⟨b,off,rfl,hbl,c0,c1,c2,c3⟩:=(L.out.below HRk.out.2.2.2).at_ hlt;have hki:(k:Int)<(l.length:Int):=by omega
   have hok:=L.out.2 l[k] (List.getElem_mem hlt);have X:=Qd hok;clear hok;go_wp2_with fail;refine(U39 (x:=l[k]) (ms:=(Uz (Yu ms) (l.take k)).1) (base:=w.heap.size) X.out ⟨HRk.out.1.1.alloc _,HRk.out.1.2⟩).mono ?_;rintro e w2 ⟨rfl,ho2,hg2⟩;have S:=Qd (U19 HRk.out hlt ho2 hg2);clear ho2 hg2;go_wp2_with (at_builtin;refine Ug _ rfl _ _ 31 rfl w.heap.size 33 i0 _ 1 8 underlying31 hi hz0 hz1 hz2 rfl (by decide) _ _ _ rfl (S.out.1.alloc _) _ 1 [.int .u64 (U9 (Uz (Yu ms) (l.take k)).1 l[k]).2] rfl (Sl.of_own (Yt _ _ 1 #[.int .u64 (U9 (Uz (Yu ms) (l.take k)).1 l[k]).2] 1 rfl (by decide))) ?qc2 ?qc3 ?qc4 ?qc5 ?_)
   case qc2=>intro u hu;simp at hu;subst hu;rfl
   case qc3=>simp only[maxLen];rw[(Ui4 _ _).2];simp only[List.length_take];omega
   case qc4=>rw[(Ui4 _ _).2];simp only[List.length_take];omega
   case qc5=>have:=S.out.2.2.size;simp;omega
   intro v' w3 hown3 hgrow3 hat3;have R3:=Qd (Ux7 HRk.out hlt X.out S.out hown3 hgrow3 hat3);clear hown3 hgrow3 hat3;go_wp2;go_roundw
   case rel=>exact⟨k+1,by omega,by go_num,R3.out⟩
   case measure=>simp[intOf];omega
  ·have hki:¬(k:Int)<(l.length:Int):=by omega
   have he:k=l.length:=by omega
   have HE:=Qd he;clear he;go_wp2;go_ret2;have hR:=HRk.out;unfold Umv at hR;rw[HE.out,List.take_length] at hR;exact⟨vn,_,rfl,hR.1,hR.2.1,hR.2.2.2⟩
theorem Yx.at_ {w:World}{A:Option Addr}{n c:Nat}{ms:List Int}{k:Nat}(h:Yx w (.slice A n c) ms)(hn:n=ms.length)(hk:k<ms.length) :
  ∃b off,A=some ⟨b,off,none⟩∧b<w.heap.size∧w.cell? ⟨b,off+k,none⟩=some (.int .u64 (ms.getD k 0)):=by
 subst hn;obtain⟨b,off,rfl,hb,hc⟩:=h.1.at_ (by omega) (by omega);exact⟨b,off,rfl,hb,hc k _ (Ug2 hk)⟩
def Zj (b:Bool)(w:World)(e:Ending)(w':World):Prop:=e = .returned (.bool b)∧Below w.heap.size w w'
theorem Ue {B:Nat}{a w:World}(h:Below B a w)(n:Nat):Below B a (w.drewN n):=⟨h.os,h.tape,h.output,h.size,h.block⟩
theorem U2b (n:Nat):(madeCells (Value.int .u64 0).cells (n*1)).toList=Uam (Zy n):=by
 rw[Nat.mul_one];show(madeCells #[Value.int .u64 0] n).toList=_;rw[toList_madeCells_one];simp[Uam,Zy,List.map_replicate]
theorem Uoa (n:Nat)(hn:n≤65536)(w:World) :
  ∃w',(Instr.makeSlice 31 (.int .i64 (n:Int)) (.int .i64 (n:Int))).run prog w = .ok (.slice (some ⟨w.heap.size,0,none⟩) n n) w' ∧
   Own w' w.heap.size (.slice (some ⟨w.heap.size,0,none⟩) n n) (Zy n)∧Below w.heap.size w w':=by
 obtain⟨i0,hi,hz0,hz1,hz2⟩:=info_parts Ugu;obtain⟨w',hr,ho,hg⟩:=run_make_full (P:=prog) w w.heap.size 31 33 i0 _ 1 underlying31 hi hz0 hz1 .i64 .i64 n (by rw[hz2];omega) (by simp only[maxLen];omega) (Xa _);refine⟨w',hr,⟨?_,Un2 n⟩,(Xb _ _).grown hg (Xa _) (by simp)⟩;rw[U2b] at ho;rw[Ugw];exact ho
theorem U2c (n:Int)(hn:I64 n)(w:World):Calls prog 32 #[.int .i64 n] w (Ubj (Zy (Ukl n)) w):=by
 by_cases h0:n≤0
 ·obtain⟨w',hmk,ho,hb⟩:=Uoa 0 (by omega) w;have F:Hid (Ubj (Zy (Ukl n)) w (.returned (.slice (some ⟨w.heap.size,0,none⟩) 0 0)) w'):=Qd ⟨_,rfl,by unfold Ukl;rw[if_pos h0];exact ho,hb⟩;clear ho hb;simp only[Int.ofNat_zero] at hmk;have h1:¬(256:Int)<n:=by omega
  go_enter func32,ntmps32;go_wp2;go_ret;exact F.out
 by_cases h2:n≤256
 ·obtain⟨k,rfl⟩:=Int.eq_ofNat_of_zero_le (show 0≤n by omega);obtain⟨w',hmk,ho,hb⟩:=Uoa k (by omega) w;have F:Hid (Ubj (Zy (Ukl (k:Int))) w (.returned (.slice (some ⟨w.heap.size,0,none⟩) k k)) w'):=Qd ⟨_,rfl,by unfold Ukl;rw[if_neg h0,if_pos h2];exact ho,hb⟩;clear ho hb;go_enter func32,ntmps32;go_wp2;go_ret;exact F.out
 ·obtain⟨w',hmk,ho,hb⟩:=Uoa 256 (by omega) w;have F:Hid (Ubj (Zy (Ukl n)) w (.returned (.slice (some ⟨w.heap.size,0,none⟩) 256 256)) w'):=Qd ⟨_,rfl,by unfold Ukl;rw[if_neg h0,if_neg h2];exact ho,hb⟩;clear ho hb;have h3:(256:Int)<n:=by omega
  have e256:((256:Nat):Int)=256:=rfl;rw[e256] at hmk;clear e256;go_enter func32,ntmps32;go_wp2;go_ret;exact F.out
def Us (cv:Value)(t:Tsk):Array Value:=((cv::Value.int .i64 t.pc::Uam t.regs)++[Value.bool t.done,Value.int .i64 t.ans]).toArray
section
variable {cv:Value} {t:Tsk}
theorem Yy (h:t.regs.length=32):(Us cv t).size=36:=by simp[Us,Uam,h]
theorem Ufj:(Us cv t)[0]? = some cv:=by simp[Us]
theorem Ug6:(Us cv t)[1]? = some (.int .i64 t.pc):=by simp[Us]
theorem Ucp {i:Nat}(h:t.regs.length=32)(hi:i<32):(Us cv t)[2+i]? = some (.int .u64 (t.regs.getD i 0)):=by
 have e:2+i=(i+1)+1:=by omega
 have:=Ug2 (ms:=t.regs) (j:=i) (by omega);simp only[Us,List.getElem?_toArray,e,List.cons_append,List.getElem?_cons_succ];rw[List.getElem?_append_left (by simp[Uam,h];omega)];exact this
theorem Ua2 (h:t.regs.length=32):(Us cv t)[34]? = some (.bool t.done):=by
 simp only[Us,List.getElem?_toArray,List.cons_append,List.getElem?_cons_succ];rw[List.getElem?_append_right (by simp[Uam,h])];simp[Uam,h]
theorem Ug7 (h:t.regs.length=32):(Us cv t)[35]? = some (.int .i64 t.ans):=by
 simp only[Us,List.getElem?_toArray,List.cons_append,List.getElem?_cons_succ];rw[List.getElem?_append_right (by simp[Uam,h])];simp[Uam,h]
theorem Z7 (hc:cv.oneCell'=true):(Us cv t).all (·.oneCell')=true:=by
 refine Array.all_eq_true_iff_forall_mem.2 ?_;intro x hx;simp[Us] at hx;rcases hx with rfl|rfl|hx|rfl|rfl
 ·exact hc
 ·rfl
 ·exact Uj3 _ _ hx
 ·rfl
 ·rfl
theorem Ude (pc:Int):(Us cv t).setIfInBounds 1 (.int .i64 pc)=Us cv { t with pc:=pc }:=by
 simp[Us]
theorem Uob (h:t.regs.length=32)(d:Bool):(Us cv t).setIfInBounds 34 (.bool d)=Us cv { t with done:=d }:=by
 apply Array.ext';simp only[Us,Array.toList_setIfInBounds];rw[List.set_append_right _ _ (by simp[Uam,h])];simp[Uam,h]
theorem Uoc (h:t.regs.length=32)(a:Int):(Us cv t).setIfInBounds 35 (.int .i64 a)=Us cv { t with ans:=a }:=by
 apply Array.ext';simp only[Us,Array.toList_setIfInBounds];rw[List.set_append_right _ _ (by simp[Uam,h])];simp[Uam,h]
theorem Ume (h:t.regs.length=32){i:Nat}(hi:i<32)(x:Int):(Us cv t).setIfInBounds (2+i) (.int .u64 x)=Us cv { t with regs:=t.regs.set i x }:=by
 apply Array.ext';have e:2+i=(i+1)+1:=by omega
 simp only[Us,Array.toList_setIfInBounds,e,List.cons_append,List.set_cons_succ];rw[List.set_append_left _ _ (by simp[Uam,h];omega),Ut1]
end
section
variable {P:Program} {w:World} {ops:Array Oper} {rest:List Oper} {o:Oper} {a:Act} {Q:Exit→Act→World→Prop}
theorem Uks (hgd:o.guard=none)(ty:TypeId)(x:Operand)(ho:o.op = .load ty x)
  (g:Nat) (hx:a.eval x = .pointer (some ⟨g,0,none⟩)) {t:TypeId} {cs:Array Value} (hB:Box w g t cs) (d:TypeDesc)
  (hu:P.underlying ty=some d) (hd:d.isRow=true) (hi:(P.info? ty).map (·.size)=some cs.size)
  (h:wpList P ops Q rest (a.put o.dst (.agg cs)) w):wpList P ops Q (o::rest) a w :=
 wpList_load_row hgd ty x ho g hx t cs (0,0) d hB hu (by cases d<;>simp_all[TypeDesc.isRow]) hi h
theorem Ujp (hgd:o.guard=none)(ty:TypeId)(x y:Operand)(ho:o.op = .store ty x y)
  (g:Nat) (hx:a.eval x = .pointer (some ⟨g,0,none⟩)) (cs:Array Value) (hy:a.eval y = .agg cs) {t:TypeId} {old:Array Value} (hB:Box w g t old)
  (hi:(P.info? ty).map (·.size)=some cs.size) (hold:old.size=cs.size) (h1:cs.all (·.oneCell')=true)
  (h:wpList P ops Q rest (a.put o.dst undef) (w.setRow g cs)):wpList P ops Q (o::rest) a w :=
 wpList_plain hgd fun _ hK=>wp_store_row ty x y ho g cs hx hy t old hB hi hold h1 (hK _ _ h)
end
def Uo (P:Program)(ops:Array Oper)(Q:Exit→Act→World→Prop)(rest:List Oper)(o:Oper)(ty:TypeId)(x:Operand)(a:Act)(w:World):Prop :=
 ∃(g:Nat) (t:TypeId) (cs:Array Value) (d:TypeDesc),a.eval x = .pointer (some ⟨g,0,none⟩)∧Box w g t cs∧P.underlying ty=some d∧d.isRow=true ∧
  (P.info? ty).map (·.size)=some cs.size∧wpList P ops Q rest (a.put o.dst (.agg cs)) w
def Uf (P:Program)(ops:Array Oper)(Q:Exit→Act→World→Prop)(rest:List Oper)(o:Oper)(ty:TypeId)(x y:Operand)(a:Act)(w:World):Prop :=
 ∃(g:Nat) (t:TypeId) (old cs:Array Value),a.eval x = .pointer (some ⟨g,0,none⟩)∧a.eval y = .agg cs∧Box w g t old∧(P.info? ty).map (·.size)=some cs.size∧old.size=cs.size∧cs.all (·.oneCell')=true ∧
  wpList P ops Q rest (a.put o.dst undef) (w.setRow g cs)
section
variable {P:Program} {w:World} {ops:Array Oper} {rest:List Oper} {o:Oper} {a:Act} {Q:Exit→Act→World→Prop}
theorem Ux8 (hgd:o.guard=none)(ty:TypeId)(x:Operand)(ho:o.op = .load ty x)(h:Uo P ops Q rest o ty x a w):wpList P ops Q (o::rest) a w:=by
 obtain⟨g,t,cs,d,hx,hB,hu,hd,hi,h⟩:=h;exact Uks hgd ty x ho g hx hB d hu hd hi h
theorem Qg {P:Program}{ops:Array Oper}{Q:Exit→Act→World→Prop}{rest:List Oper}{o:Oper}{a:Act}{w:World}(ty:TypeId){x:Operand}(h:Uo P ops Q rest o ty x a w)(hgd:o.guard=none:=by exact rfl)(ho:o.op = .load ty x:=by exact rfl):wpList P ops Q (o::rest) a w:=Ux8 hgd ty x ho h
theorem Uvb (hgd:o.guard=none)(ty:TypeId)(x y:Operand)(ho:o.op = .store ty x y)(h:Uf P ops Q rest o ty x y a w):wpList P ops Q (o::rest) a w:=by
 obtain⟨g,t,old,cs,hx,hy,hB,hi,hold,h1,h⟩:=h;exact Ujp hgd ty x y ho g hx cs hy hB hi hold h1 h
theorem Qh {P:Program}{ops:Array Oper}{Q:Exit→Act→World→Prop}{rest:List Oper}{o:Oper}{a:Act}{w:World}(ty:TypeId){x y:Operand}(h:Uf P ops Q rest o ty x y a w)(hgd:o.guard=none:=by exact rfl)(ho:o.op = .store ty x y:=by exact rfl):wpList P ops Q (o::rest) a w:=Uvb hgd ty x y ho h
theorem Uo.go {ty:TypeId}{x:Operand}(g:Nat){t:TypeId}{cs:Array Value}{d:TypeDesc}(hx:a.eval x = .pointer (some ⟨g,0,none⟩))(hB:Box w g t cs)(hu:P.underlying ty=some d)
  (hd:d.isRow=true) (hi:(P.info? ty).map (·.size)=some cs.size) (h:wpList P ops Q rest (a.put o.dst (.agg cs)) w):Uo P ops Q rest o ty x a w :=
 ⟨g,t,cs,d,hx,hB,hu,hd,hi,h⟩
theorem Uf.go {ty:TypeId}{x y:Operand}(g:Nat){t:TypeId}{old cs:Array Value}(hx:a.eval x = .pointer (some ⟨g,0,none⟩))(hy:a.eval y = .agg cs)(hB:Box w g t old)(hi:(P.info? ty).map (·.size)=some cs.size)
  (hold:old.size=cs.size) (h1:cs.all (·.oneCell')=true) (h:wpList P ops Q rest (a.put o.dst undef) (w.setRow g cs)):Uf P ops Q rest o ty x y a w :=
 ⟨g,t,old,cs,hx,hy,hB,hi,hold,h1,h⟩
end
section
variable {w w':World} {g:Nat} {t:TypeId} {cs cs':Array Value}
theorem Box.row (h:Box w g t cs)(cs':Array Value):Box (w.setRow g cs') g t cs':=setRow_heap w g cs cs' t (0,0) h
theorem Box.row_far (h:Box w g t cs){k:Nat}(hk:g≠k)(cs':Array Value):Box (w.setRow k cs') g t cs:=(setRow_other w k g cs' hk).trans h
theorem Uc {B:Nat}{a w:World}(h:Below B a w){g:Nat}(hg:B≤g)(cs:Array Value):Below B a (w.setRow g cs) :=
 h.trans ⟨rfl,rfl,rfl,by simp,fun k hk=>setRow_other w g k cs (by omega)⟩
end
theorem Uer:(prog.info? 36).map (·.size)=some 36:=by kernel_rfl
theorem Yc {cs:Array Value}(h:cs.size=36):(prog.info? 36).map (·.size)=some cs.size:=by rw[h];exact Uer
def Ukt (cv:Value)(t:Tsk)(w:World)(e:Ending)(w':World):Prop:=e = .returned (.agg (Us cv t))∧Below w.heap.size w w'
theorem Uif (cv:Value)(t:Tsk)(a:Int)(w:World)(ht:t.regs.length=32)(hc:cv.oneCell'=true) :
  Calls prog 111 #[.agg (Us cv t),.int .i64 a] w (Ukt cv { t with done:=true,ans:=a } w):=by
 have hsz:(Us cv { t with done:=true,ans:=a }).size=36:=Yy ht;have f34:=Ua2 (cv:=cv) ht;have f35:=Ug7 (cv:=cv) ht;have e2:((Us cv t).setIfInBounds 34 (.bool true)).setIfInBounds 35 (.int .i64 a)=Us cv { t with done:=true,ans:=a }:=by rw[Uob ht,Uoc (t:={ t with done:=true }) ht]
 have HE:=Qd e2;have HS:=Qd hsz;have h1:=Qd (Z7 (t:={ t with done:=true,ans:=a }) hc);clear hsz ht e2;go_enter func111,ntmps111;go_wp2_with (with_reducible first|refine Qg 36 ?_|refine Qh 36 ?_);refine Uo.go w.heap.size rfl ((Box.new w _ _).alloc _) underlying36 rfl (Yc (by rw[HE.out];exact HS.out)) ?_;rw[HE.out];go_wp2_with (with_reducible first|refine Qg 36 ?_|refine Qh 36 ?_);refine Uf.go (w.heap.size+1) rfl rfl (Box.at_ (by simp) _ _) (Yc HS.out) (by rw[HS.out];rfl) h1.out ?_;go_wp2;refine Xk (results_cell_row results111 _ _ (w.heap.size+1) 36 _ (0,0) _ rfl ((Box.at_ (by simp) _ _).row _) underlying36 rfl (Yc HS.out)) rfl ⟨rfl,?_⟩;exact Uc (((Xb _ w).alloc (Xa _) _).alloc (by simp) _) (by omega) _
open Tryz
open Go.RowKit
def Uw.cells (x:Uw):List Value:=[.int .i64 x.k,.int .i64 x.i,.int .i64 x.r,.int .i64 x.to,.int .u64 x.a]
def Uw.val (x:Uw):Value := .agg #[.int .i64 x.k,.int .i64 x.i,.int .i64 x.r,.int .i64 x.to,.int .u64 x.a]
def Ucj (w:World)(v:Value)(l:List Uw):Prop:=Sl w v 5 l.length (l.flatMap Uw.cells)∧∀x∈l,x.ok
theorem Ucj.below {w w':World}{v:Value}{l:List Uw}(h:Ucj w v l)(hb:Below w.heap.size w w'):Ucj w' v l:=⟨h.1.below hb,h.2⟩
theorem Ucj.alloc {w:World}{v:Value}{l:List Uw}(h:Ucj w v l)(o:Obj):Ucj (w.alloc o) v l:=⟨h.1.alloc o,h.2⟩
theorem Ucj.at_ {w:World}{A:Option Addr}{n c:Nat}{l:List Uw}{k:Nat}(h:Ucj w (.slice A n c) l)(hn:n=l.length)(hk:k<l.length) :
  ∃b off,A=some ⟨b,off,none⟩∧b<w.heap.size∧w.cell? ⟨b,off+k*5,none⟩=some (.int .i64 (l.getD k Yo).k)∧w.cell? ⟨b,off+k*5+1,none⟩=some (.int .i64 (l.getD k Yo).i) ∧
   w.cell? ⟨b,off+k*5+2,none⟩=some (.int .i64 (l.getD k Yo).r)∧w.cell? ⟨b,off+k*5+3,none⟩=some (.int .i64 (l.getD k Yo).to)∧w.cell? ⟨b,off+k*5+4,none⟩=some (.int .u64 (l.getD k Yo).a):=by
 subst hn;obtain⟨b,off,rfl,hb,hc⟩:=h.1.at_ (by omega) (by omega);have hg:=fun j hj=>Ufi Uw.cells 5 l (fun _ _=>rfl) k j hk hj
 have he:l.getD k Yo=l[k]:=by rw[List.getD_eq_getElem?_getD,Xj hk];rfl
 rw[he];refine⟨b,off,rfl,hb,?_,?_,?_,?_,?_⟩
 ·have:=hc (k*5+0) _ (by rw[hg 0 (by omega)];rfl);simpa using this
 ·have:=hc (k*5+1) _ (by rw[hg 1 (by omega)];rfl);rw[Nat.add_assoc];exact this
 ·have:=hc (k*5+2) _ (by rw[hg 2 (by omega)];rfl);rw[Nat.add_assoc];exact this
 ·have:=hc (k*5+3) _ (by rw[hg 3 (by omega)];rfl);rw[Nat.add_assoc];exact this
 ·have:=hc (k*5+4) _ (by rw[hg 4 (by omega)];rfl);rw[Nat.add_assoc];exact this
theorem Ur4 {l:List Uw}(h:∀x∈l,x.ok)(k:Nat)(hk:k<l.length):(l.getD k Yo).ok:=by
 rw[List.getD_eq_getElem?_getD,Xj hk];exact h _ (List.getElem_mem hk)
theorem U2d {n i:Nat}{x:Uw}(h:¬Udc n i x) :
  x.k<0∨(0≤x.k∧6<x.k)∨(0≤x.k∧x.k≤6∧x.r<0)∨(0≤x.k∧x.k≤6∧0≤x.r∧32≤x.r)∨(0≤x.k∧x.k≤6∧0≤x.r∧x.r<32∧x.to≤(i:Int)) ∨
  (0≤x.k∧x.k≤6∧0≤x.r∧x.r<32∧(i:Int)<x.to∧(n:Int)<x.to):=by
 unfold Udc at h;omega
theorem Uku {v:Value}{l:List Uw}{w:World}(h:Ucj w v l):Calls prog 110 #[v] w (Zj (decide (Ugx l)) w):=by
 obtain⟨A,c,rfl,hc1,hc2,hA⟩:=h.1.form;unfold maxLen at hc2;have L:=Qd h;have hlen:(l.length:Int)≤9223372036854775807:=by omega
 clear h hA;go_enter func110,ntmps110;go_wp2_with fail;go_loopw [7] (fun i wr=>∃k:Nat,k≤l.length∧i = .int .i64 (k:Int)∧Below w.heap.size w wr∧Hid (∀j,j<k→Udc l.length j (l.getD j Yo))) (fun i _=>l.length-(intOf i).toNat)
 case atStart=>exact⟨0,Nat.zero_le _,rfl,Xb _ _,Qd fun j hj=>absurd hj (by omega)⟩
 case round =>
  obtain⟨k,hk,rfl,hB,hJ⟩:=hrel;have HB:=Qd hB;have hs:=hB.size;clear hB;by_cases hlt:k<l.length
  ·obtain⟨b,off,rfl,hbl,c0,c1,c2,c3,c4⟩:=(L.out.below HB.out).at_ rfl hlt;have hki:(k:Int)<(l.length:Int):=by omega
   by_cases hx:Udc l.length k (l.getD k Yo)
   ·have hx':=hx;obtain⟨x0,x1,x2,x3,x4,x5⟩:=hx';generalize hxx:l.getD k Yo=x at *;have HX:=Qd hx;have HXX:=Qd hxx;clear hx hxx;have y0:¬x.k<0:=by omega
    have y1:¬6<x.k:=by omega
    have y2:¬x.r<0:=by omega
    have y3:¬32≤x.r:=by omega
    have y4:¬x.to≤(k:Int):=by omega
    have y5:¬(l.length:Int)<x.to:=by omega
    go_wp2;go_roundw
    case rel=>exact⟨k+1,by omega,by go_num,HB.out.alloc hs _,Qd fun j hj=>by
     by_cases e:j=k
     ·subst e;rw[HXX.out];exact HX.out
     ·exact hJ.out j (by omega)⟩
    case measure=>simp[intOf];omega
   ·have fin:∀o,Zj (decide (Ugx l)) w (.returned (.bool false)) (wr.alloc o):=fun o=>⟨by rw[Xh (fun hS=>hx (hS.1 k hlt))],HB.out.alloc hs _⟩
    have F:=Qd fin;have hn:=U2d hx;generalize l.getD k Yo=x at *;clear hx fin;rcases hn with x0|⟨x0,x1⟩|⟨x0,x1,x2⟩|⟨x0,x1,x2,x3⟩|⟨x0,x1,x2,x3,x4⟩|⟨x0,x1,x2,x3,x4,x5⟩
    all_goals
     go_wp2;go_ret;exact F.out _
  ·have hki:¬(k:Int)<(l.length:Int):=by omega
   have he:k=l.length:=by omega
   have hall:∀j,j<l.length→Udc l.length j (l.getD j Yo):=fun j hj=>hJ.out j (by omega)
   have HE:=Qd hall;clear he hall;by_cases h0:l.length=0
   ·have hz:¬(0:Int)<(l.length:Int):=by omega
    have F:Hid (Zj (decide (Ugx l)) w (.returned (.bool false)) wr):=Qd ⟨by rw[Xh (fun hS=>by have:=hS.2.1;omega)],HB.out⟩;clear h0;go_wp2;go_ret;exact F.out
   by_cases h2:l.length≤200
   ·have hz:(0:Int)<(l.length:Int):=by omega
    have hz2:(l.length:Int)≤200:=by omega
    have F:Hid (Zj (decide (Ugx l)) w (.returned (.bool true)) wr):=Qd ⟨by rw[Xi (p:=Ugx l) (Xc HE.out (Xc (by omega) h2))],HB.out⟩;go_wp2;go_ret;exact F.out
   ·have hz:(0:Int)<(l.length:Int):=by omega
    have hz2:¬(l.length:Int)≤200:=by omega
    have F:Hid (Zj (decide (Ugx l)) w (.returned (.bool false)) wr):=Qd ⟨by rw[Xh (fun hS=>h2 hS.2.2)],HB.out⟩;go_wp2;go_ret;exact F.out
theorem U66 (i:Int):bits .and .i64 i 31=(Uxs i:Int):=by
 have hb:(BitVec.ofInt 64 31).toNat=31:=rfl;have h1:(BitVec.ofInt 64 i &&& BitVec.ofInt 64 31).toNat=Uxs i:=by
  rw[BitVec.toNat_and,hb,show(31:Nat)=2 ^ 5-1 from rfl,Nat.and_two_pow_sub_one_eq_mod,BitVec.toNat_ofInt];unfold Uxs;omega
 show IntKind.i64.wrap (((BitVec.ofInt 64 i &&& BitVec.ofInt 64 31).toNat:Nat):Int)=_;rw[h1,Xf];have:=Uxz i;omega
theorem Uvc {g:Nat}{cv:Value}{t:Tsk}{x:Uw}{w:World}(hB:Box w g 36 (Us cv t))(ht:t.ok)(hx:x.ok)(hr0:0≤x.r)(hr1:x.r≤31)(hk:3≤x.k)(hk5:x.k≤5) :
  Calls prog 141 #[.pointer (some ⟨g,0,none⟩),x.val] w (Zj (Ukm t.regs x) w):=by
 obtain⟨xk,xi,xr,xto,xa⟩:=x;obtain⟨r,hr⟩:=Int.eq_ofNat_of_zero_le hr0;simp only at hr hr0 hr1 hk hk5;subst hr;have hrl:r<32:=by omega
 obtain⟨h32,hw,_,_⟩:=ht;obtain⟨_,_,_,_,ha⟩:=hx;have hlow:=Uxz xi;have c0:=(hB.cell (2+r)).trans (Ucp h32 hrl);have c1:=(hB.cell (2+Uxs xi)).trans (Ucp h32 hlow);have hw0:W64 (t.regs.getD r 0):=hw _ (Ufe (by omega));have hlt:=hB.lt;have hlt1:g<w.heap.size+1:=by omega
 have hand:=U66 xi;have hli:((Uxs xi:Nat):Int)<32:=by omega
 have hri:(r:Int)<32:=by omega
 have F:Hid (∀n o,Below w.heap.size w ((w.alloc o).drewN n)):=Qd fun n o=>Ue ((Xb _ w).alloc (Xa _) _) n
 have hj:Ukm t.regs ⟨xk,xi,r,xto,xa⟩=(if xk=3 then decide (t.regs.getD r 0=xa) else if xk=4 then decide (t.regs.getD r 0 % 2=1) else decide (t.regs.getD r 0=t.regs.getD (Uxs xi) 0)):=by
  unfold Ukm;simp only[Int.toNat_natCast]
 generalize Ukm t.regs ⟨xk,xi,r,xto,xa⟩=jb at *;generalize t.regs.getD r 0=p at *;generalize t.regs.getD (Uxs xi) 0=q at *;generalize Uxs xi=lw at *;obtain⟨hp0,hp1⟩:=hw0;have HJ:=Qd hj;clear hj hB hw h32 ha;unfold Uw.val;have hcase:xk=3∨xk=4∨xk=5:=by omega
 rcases hcase with rfl|rfl|rfl
 rotate_right
 focus
  by_cases he:p=q;rotate_right
  focus
   have hq:(p==q)=false:=by simpa using he
   have hjb:jb=false:=by rw[HJ.out];simp[he]
  rotate_right
  focus
   have hq:(p==q)=true:=by simp[he]
   have hjb:jb=true:=by rw[HJ.out];simp[he]
 rotate_right
 focus
  by_cases he:p % 2=1;rotate_right
  focus
   have hq:(p % 2==1)=false:=by simpa using he
   have hjb:jb=false:=by rw[HJ.out];simp[he]
  rotate_right
  focus
   have hq:(p % 2==1)=true:=by simp[he]
   have hjb:jb=true:=by rw[HJ.out];simp[he]
 rotate_right
 focus
  by_cases he:p=xa;rotate_right
  focus
   have hq:(p==xa)=false:=by simpa using he
   have hjb:jb=false:=by rw[HJ.out];simp[he]
  rotate_right
  focus
   have hq:(p==xa)=true:=by simp[he]
   have hjb:jb=true:=by rw[HJ.out];simp[he]
 all_goals
  subst hjb;clear he;go_enter func141,ntmps141;go_wp2_with fail;go_quiet (fail);go_wp2_with fail;go_quiet (fail);go_wp2;go_ret;exact⟨rfl,Ue (F.out _ _) _⟩
open Go.RowKit Go.Shelf
structure U67 (g gp:Nat) (cv:Value) (code:List Uw) (J:Tsk→World→Prop):Prop where
 box:∀{t W},J t W→Box W g 36 (Us cv t)
 ok:∀{t W},J t W→t.ok
 ptr:∀{t W},J t W→W.cell? ⟨gp,0,none⟩=some (.pointer (some ⟨g,0,none⟩))
 plt:∀{t W},J t W→gp<W.heap.size
 code:∀{t W},J t W→Ucj W cv code
 moved:∀{t W W'},J t W→Below W.heap.size W W'→J t W'
 set:∀{t t' W W'},J t W→t'.ok→W.grownBy W' (some g)→Box W' g 36 (Us cv t')→J t' W'
def Udo (code:List Uw)(g:Nat)(W:World):Nat :=
 match W.cell? ⟨g,34,none⟩,W.cell? ⟨g,1,none⟩ with
 | some (.bool d),some (.int _ pc)=>if d then 0 else ((code.length:Int)-pc).toNat
 | _,_=>0
theorem Ug8 {code:List Uw}{g:Nat}{W:World}{cv:Value}{t:Tsk}{ty:TypeId}(h:Box W g ty (Us cv t))(ht:t.regs.length=32):Udo code g W=left code t:=by
 unfold Udo;rw[(h.cell 34).trans (Ua2 ht),(h.cell 1).trans Ug6]
 rfl
theorem Yf (g:Nat):∀(vs:List Value) (o:Nat) (W:World),W.grownBy (W.setCells g o vs) (some g)
 | [],_,W=>World.grownBy.refl W _
 | v::r,o,W=>by
  have h1:W.grownBy (W.setCell ⟨g,o,none⟩ v) (some g):=⟨rfl,rfl,rfl,(KeepsWalks.setCell W _ v).size,fun k _ hk=>Below.heap_setCell _ _ _ k (fun e=>hk (by rw[e]))⟩;exact h1.trans (Yf g r (o+1) _)
theorem Ui7 {g:Nat}{t:TypeId}:∀(vs:List Value) (o:Nat) (W:World) (cs:Array Value),Box W g t cs→∃cs':Array Value,Box (W.setCells g o vs) g t cs'∧cs'.size=cs.size
 | [],_,_,cs,h=>⟨cs,h,rfl⟩
 | v::r,o,W,cs,h=>by
  obtain⟨cs',h1,h2⟩:=Ui7 r (o+1) _ _ (h.set_ o v);exact⟨cs',h1,by rw[h2];simp⟩
theorem Box.setCells_all {W:World}{g:Nat}{t:TypeId}{cs:Array Value}{vs:List Value}(h:Box W g t cs)(hs:vs.length=cs.size):Box (W.setCells g 0 vs) g t vs.toArray:=by
 obtain⟨cs',h1,h2⟩:=Ui7 vs 0 W cs h;have hc:=World.cell?_setCells_in g vs 0 W (fun j hj=>by rw[h.cell];rw[Array.getElem?_eq_getElem (by omega)];rfl);have he:cs'=vs.toArray:=by
  apply Array.ext
  ·simp;omega
  ·intro j hj1 hj2;have hj:j<vs.length:=by simpa using hj2
   have:=hc j hj;rw[h1.cell,Nat.zero_add,Array.getElem?_eq_getElem hj1] at this;injection this
 rw[←he];exact h1
theorem Box.range {W:World}{g:Nat}{t:TypeId}{cs:List Value}(h:Box W g t cs.toArray):W.rangeAt g 0 cs:=fun j v hv=>by
 rw[h.cell,Nat.zero_add];simpa using hv
theorem Box.thereAll {W:World}{g:Nat}{t:TypeId}{cs:Array Value}(h:Box W g t cs){n:Nat}(hn:cs.size=n):W.there g 0 n:=fun j hj =>
 ⟨by rw[h.cell,Nat.zero_add,Array.getElem?_eq_getElem (by omega)];rfl,h.frozen _⟩
theorem Uvd {cv:Value}{t:Tsk}{a:Int}{w:World}{tl tl2:List Value}(ht:t.regs.length=32)(hc:cv.oneCell'=true)(h1:Us cv t=tl.toArray)(h2:Us cv { t with done:=true,ans:=a }=tl2.toArray) :
  Calls prog 111 #[.agg tl.toArray,.int .i64 a] w (fun e w'=>e = .returned (.agg tl2.toArray)∧Below w.heap.size w w'):=by
 rw[←h1,←h2];exact Uif cv t a w ht hc
theorem Udx (cv:Value)(t:Tsk)(ht:t.regs.length=32):∃tl:List Value,Us cv t=tl.toArray∧tl.length=36:=⟨(Us cv t).toList,by simp,by simpa using Yy (cv:=cv) ht⟩
set_option maxRecDepth 20000 in
set_option linter.unusedSimpArgs false in
theorem Uve {g gp l n:Nat}{cv:Value}{code:List Uw}{J:Tsk→World→Prop}(T:U67 g gp cv code J)(hs:Ugx code)(hone:cv.oneCell'=true)(hne:gp≠g)
  (hY:∀(t:Tsk) (x:Uw) (W:World),J t W→t.done=false→0≤t.pc→t.pc<(code.length:Int)→code.getD t.pc.toNat Yo=x→2<x.k →
   YieldAt Fence.wide n prog l #[x.val] W fun e W'=>e = .returned (.bool true)∧J (Yw t x) W')
  {t:Tsk} {W:World} (h:J t W) :
  Calls prog 167 #[.func (.yield l) #[] #[],.pointer (some ⟨gp,0,none⟩)] W (fun e W'=>(∃v,e = .returned v)∧J (rest code t) W'):=by
 have HT:=Qd T;have HY:=Qd hY;have HS:=Qd hs;have H0:=Qd h;clear T hY h hs;go_enter func167,ntmps167;go_wp2_with fail;go_loopw [] (fun wr=>∃t',Hid (J t' wr)∧Hid (rest code t'=rest code t)) (fun wr=>Udo code g wr)
 case atStart=>exact⟨t,H0,Qd rfl⟩
 case round =>
  obtain⟨t',HJ,HR⟩:=hrel;have h32:=(HT.out.ok HJ.out).1;have e34:=((HT.out.box HJ.out).cell 34).trans (Ua2 h32);have ep:=HT.out.ptr HJ.out;by_cases hd:t'.done=true
  ·rw[hd] at e34;have F:Hid (J (rest code t) wr):=Qd (by rw[←HR.out,Upq hd];exact HJ.out);clear hd;go_wp2;go_end0;exact⟨⟨_,rfl⟩,F.out⟩
  ·have hd':t'.done=false:=by simpa using hd
   rw[hd'] at e34;have e1:=((HT.out.box HJ.out).cell 1).trans Ug6;have e0:=((HT.out.box HJ.out).cell 0).trans Ufj;clear hd;have HD:=Qd hd';clear hd';have hpc:=(HT.out.ok HJ.out).2.2.1;have hI:=HT.out.code HJ.out;obtain⟨A,c,hcv,hc1,hc2,hA⟩:=hI.1.form;rw[hcv] at e0;unfold maxLen at hc2;have HI:=Qd hI;clear hI hA;by_cases hin:0≤t'.pc∧t'.pc<(code.length:Int)
   ·obtain⟨hp0,hp1⟩:=hin;obtain⟨pc,hpce⟩:=Int.eq_ofNat_of_zero_le hp0;have hpl:pc<code.length:=by omega
    have hsl:code.length≤200:=HS.out.2.2;have hI':=HI.out;rw[hcv] at hI';obtain⟨b,off,rfl,hbl,c0,c1,c2,c3,c4⟩:=hI'.at_ rfl hpl;have hxe:code.getD t'.pc.toNat Yo=code.getD pc Yo:=by rw[hpce];rfl
    generalize hx:code.getD pc Yo=x at *;rw[hpce] at e1;have HX:=Qd hxe;have HX2:=Qd hx;have HPC:=Qd hpce;clear hI' hxe hx hp1;have hneg:¬(pc:Int)<0:=by omega
    have hge:¬(code.length:Int)≤(pc:Int):=by omega
    have hlt:(pc:Int)<(code.length:Int):=by omega
    go_wp2_with fail;go_quiet (fail);go_wp2_with fail;rename_i nq _ K2 hK2;obtain⟨W2,hW2⟩:∃W2,W2=wr.drewN nq:=⟨_,rfl⟩;have f0:W2.cell? ⟨gp,0,none⟩=some (.pointer (some ⟨g,0,none⟩)):=by rw[hW2];exact ep
    have f1:W2.cell? ⟨g,0,none⟩=some (.slice (some ⟨b,off,none⟩) code.length c):=by rw[hW2];exact e0
    have f2:W2.cell? ⟨g,1,none⟩=some (.int .i64 (pc:Int)):=by rw[hW2];exact e1
    have f3:W2.cell? ⟨b,off+pc*5,none⟩=some (.int .i64 x.k):=by rw[hW2];exact c0
    have f4:W2.cell? ⟨b,off+pc*5+1,none⟩=some (.int .i64 x.i):=by rw[hW2];exact c1
    have f5:W2.cell? ⟨b,off+pc*5+2,none⟩=some (.int .i64 x.r):=by rw[hW2];exact c2
    have f6:W2.cell? ⟨b,off+pc*5+3,none⟩=some (.int .i64 x.to):=by rw[hW2];exact c3
    have f7:W2.cell? ⟨b,off+pc*5+4,none⟩=some (.int .u64 x.a):=by rw[hW2];exact c4
    have HB2:Hid (Below wr.heap.size wr W2):=Qd (by rw[hW2];exact Ue (Xb _ _) _);rw[←hW2];clear hW2 ep e0 e1 c0 c1 c2 c3 c4 e34;have n0:=World.new_ne W2.drew _ f0;have n1:=World.new_ne W2.drew _ f1;have n2:=World.new_ne W2.drew _ f3
    go_region_held3 (fun w'=>w'.cell? ⟨gp,0,none⟩=some (.pointer (some ⟨g,0,none⟩))∧w'.cell? ⟨g,0,none⟩=some (.slice (some ⟨b,off,none⟩) code.length c)∧w'.cell? ⟨g,1,none⟩=some (.int .i64 (pc:Int)) ∧
     w'.cell? ⟨b,off+pc*5,none⟩=some (.int .i64 x.k)∧w'.cell? ⟨b,off+pc*5+1,none⟩=some (.int .i64 x.i)∧w'.cell? ⟨b,off+pc*5+2,none⟩=some (.int .i64 x.r)∧w'.cell? ⟨b,off+pc*5+3,none⟩=some (.int .i64 x.to)∧w'.cell? ⟨b,off+pc*5+4,none⟩=some (.int .u64 x.a)) (go_keep) (fail)
    have hJ:Hid (∀o,J t' (W2.alloc o).drew):=Qd fun o=>by
     have:=((HB2.out.alloc (o:=o) (HB2.out.size)).trans (c:=(W2.alloc o).drew) ⟨rfl,rfl,rfl,Xa _,fun _ _=>rfl⟩);exact HT.out.moved HJ.out this
    by_cases hk:x.k≤2
    ·have F:Hid (∀o,J (rest code t) (W2.alloc o).drew):=Qd fun o=>by
      have hr:=Un3 (code:=code) HD.out hp0 (by rw[HPC.out];omega) (by rw[HX.out];exact hk);rw[←HR.out,hr];exact hJ.out o
     go_wp2;exact Xk (results_none rfl _ _ _) rfl ⟨⟨_,rfl⟩,F.out _⟩
    ·have hY2:=HY.out t' x _ (hJ.out (Obj.cells x.cells.toArray 162)) HD.out hp0 (by rw[HPC.out];omega) HX.out (by omega);obtain⟨fn,tmps,assign,body,hy,hR⟩:=hY2;have HRR:=Qd hR;clear hR;have HL:Hid (rest code (Yw t' x)=rest code t):=Qd (by rw[←HR.out,Un4 HS.out HD.out hp0 (by rw[HPC.out];omega) (by rw[HX.out];omega),HX.out]);have HM:Hid (left code (Yw t' x)<left code t'):=Qd (by have:=Uck HS.out hp0 (by rw[HPC.out];omega) HD.out;rw[HX.out] at this;exact this);simp only[Uw.cells,Uw.val] at hy HRR;refine hK2 _ _ ?_;refine(wpIn_wide (n:=n+1)).1 ?_
     gi_wp2
     refine HRR.out.mono ?_;rintro e W3 ⟨rfl,hJ3⟩;have HJ3:=Qd hJ3
     have HMM:Hid (Udo code g W3<Udo code g wr):=Qd (by
      rw[Ug8 (HT.out.box hJ3) (HT.out.ok hJ3).1,Ug8 (HT.out.box HJ.out) h32];exact HM.out)
     clear hJ3
     gi_wp2
     go_roundw
     case rel=>exact⟨Yw t' x,HJ3,HL⟩
     case measure=>exact HMM.out
   ·have hout:t'.pc<0∨t'.pc≥(code.length:Int):=by omega
    have hend:=U1z HD.out hout;rw[HR.out] at hend;have HE:=Qd hend;clear hend;obtain⟨tl,ht1,hl1⟩:=Udx cv t' h32;obtain⟨tl2,ht2,hl2⟩:=Udx cv { t' with done:=true,ans := -1 } h32;have hu:=underlying36;have hi1:(prog.info? 36).map (·.size)=some tl.length:=by rw[hl1];exact Uer
    have hi2:(prog.info? 36).map (·.size)=some tl2.length:=by rw[hl2];exact Uer
    have hone2:∀v∈tl2,v.oneCell'=true:=by
     have:=Z7 (t:={ t' with done:=true,ans := -1 }) hone;rw[ht2] at this;intro v hv;exact Array.all_eq_true_iff_forall_mem.1 this v (by simpa using hv)
    have hbx:Box wr g 36 tl.toArray:=by rw[←ht1];exact HT.out.box HJ.out
    have HC:Hid (∀(nq:Nat) (w1:World),Below wr.heap.size (wr.drewN nq) w1→w1.cell? ⟨gp,0,none⟩=some (.pointer (some ⟨g,0,none⟩))∧w1.there g 0 tl2.length∧(w1.setCells g 0 tl2).cell? ⟨gp,0,none⟩=some (.pointer (some ⟨g,0,none⟩))∧J (rest code t) (w1.setCells g 0 tl2)):=Qd fun nq w1 hb=>by
     have hB:Below wr.heap.size wr w1:=(Ue (Xb _ wr) nq).trans hb;have hbx1:Box w1 g 36 tl.toArray:=hbx.kept hB;have hp1:=(hB.cell (p:=⟨gp,0,none⟩) (HT.out.plt HJ.out)).trans ep;refine⟨hp1,hbx1.thereAll (by simp[hl1,hl2]),?_,?_⟩
     ·rw[World.cell?_setCells_out g tl2 0 w1 ⟨gp,0,none⟩ (fun e=>absurd e hne)];exact hp1
     ·rw[HE.out];have hok:=HT.out.ok HJ.out;exact HT.out.set (HT.out.moved HJ.out hB) ⟨hok.1,hok.2.1,hok.2.2.1,by unfold I64;constructor<;>(simp only;omega)⟩ (Yf g tl2 0 w1) (by rw[ht2];exact hbx1.setCells_all (by simp[hl1,hl2]))
    have HB:=Qd hbx;clear hbx;have HA:Hid (∀w,Calls prog 111 #[.agg tl.toArray,.int .i64 (-1)] w (fun e w'=>e = .returned (.agg tl2.toArray)∧Below w.heap.size w w')):=Qd fun w=>Uvd h32 hone ht1 ht2
    have hcase:t'.pc<0∨(¬t'.pc<0∧(code.length:Int)≤t'.pc):=by omega
    clear hin hout;rcases hcase with hneg|⟨hneg,hge⟩
    all_goals
     go_wp2_with fail;go_quiet (fail);go_wp2_with fail;rename_i nq _ _ _;have c1:(wr.drewN nq).drew.cell? ⟨gp,0,none⟩=some (.pointer (some ⟨g,0,none⟩)):=ep;refine Xm (S:=fun w'=>w'.cell? ⟨gp,0,none⟩=some (.pointer (some ⟨g,0,none⟩))) (by kernel_rfl) c1 (fun hHeld=>?_);refine wpAnyH_take (i:=0) (v := .pointer (some ⟨g,0,none⟩)) rfl (by kernel_rfl) (by kernel_rfl) (by kernel_rfl) (fun _ _ _ h=>h) (Or.inl ⟨by rfl,fun w hw=>?_⟩) hHeld ?_
     ·go_simp
     simp only[Act.put,List.setIfInBounds_toArray,List.set_cons_zero,List.set_cons_succ];refine wpAnyH_take (i:=1) (v := .pointer (some ⟨g,0,none⟩)) rfl (by kernel_rfl) (by kernel_rfl) (by kernel_rfl) (fun _ _ _ h=>h) (Or.inl ⟨by rfl,fun w hw=>?_⟩) hHeld ?_
     ·go_simp
     simp only[Act.put,List.setIfInBounds_toArray,List.set_cons_zero,List.set_cons_succ];refine wpAnyH_take (i:=2) (v := .pointer (some ⟨g,0,none⟩)) rfl (by kernel_rfl) (by kernel_rfl) (by kernel_rfl) (fun _ _ _ h=>h) (Or.inl ⟨by rfl,fun w hw=>?_⟩) hHeld ?_
     ·go_simp
     simp only[Act.put,List.setIfInBounds_toArray,List.set_cons_zero,List.set_cons_succ];refine Qc 3 fun K hK=>?_
     rw[if_pos (by rfl)];refine wp_load_row 36 _ rfl g rfl 36 _ (0,0) _ HB.out hu rfl (Yc (by simp[hl1])) ?_;refine hK.out _ _ hHeld (fun _=>?_);clear hK K;simp only[Act.put,List.setIfInBounds_toArray,List.set_cons_zero,List.set_cons_succ];refine Qc 4 fun K hK=>?_
     go_simp;refine(HA.out _).mono ?_;rintro e w1 ⟨rfl,hb⟩;obtain⟨c2,th2,c3,hJ2⟩:=HC.out (nq+1) w1 hb;refine hK.out _ _ c2 (fun hHeld2=>?_);clear hK K;refine Qc 5 fun K hK=>?_
     go_simp;refine hK.out _ _ c2 (fun _=>?_);clear hK K;refine Qc 6 fun K hK=>?_
     rw[if_pos (by rfl)];refine wp_store_mid 36 _ _ rfl g 0 tl2.toArray rfl rfl (by simpa using th2) (Yc (by simp[hl2])) (all_oneCell_toArray hone2) ?_;rw[List.toList_toArray];refine hK.out _ _ c3 (fun _=>?_);clear hK K;refine Xl (by kernel_rfl) ?_ _;simp only[Act.put,List.setIfInBounds_toArray,List.set_cons_zero,List.set_cons_succ];go_wp2;exact Xk (results_none rfl _ _ _) rfl ⟨⟨_,rfl⟩,hJ2⟩
end Go.Proofs.YtdaflmjfeoacaaaGreat
