/- Part of the proof of TopTry, TopSplit: BeA. Conditions: none. -/
import Derived.Test.YtdaflmjfeoacaaaGreatZbbl
set_option linter.all false
set_option maxHeartbeats 16000000
set_option maxRecDepth 4000
namespace Go.Proofs.YtdaflmjfeoacaaaGreat
open Tryz
open Go.RowKit Go.Shelf
theorem Uhx:∀(S:List (List Value)) (i:Nat),i<S.length→S.flatten=(S.take i).flatten++S.getD i []++(S.drop (i+1)).flatten:=by
 intro S
 induction S with
 | nil=>intro i hi;simp at hi
 | cons a S ih =>
  intro i hi;cases i with
  | zero=>simp
  | succ i =>
   have:=ih i (by simpa using hi);rw[List.flatten_cons,this];simp
theorem Uj8:∀(S:List (List Value)) (i:Nat) (v:List Value),i<S.length→(S.set i v).flatten=(S.take i).flatten++v++(S.drop (i+1)).flatten:=by
 intro S
 induction S with
 | nil=>intro i v hi;simp at hi
 | cons a S ih =>
  intro i v hi;cases i with
  | zero=>simp
  | succ i =>
   have:=ih i v (by simpa using hi);rw[List.set_cons_succ,List.flatten_cons,this];simp
theorem Uj9:∀(S:List (List Value)) (i:Nat),(S.take i).flatten.length=((S.map List.length).take i).sum:=by
 intro S
 induction S with
 | nil=>intro i;simp
 | cons a S ih =>
  intro i;cases i with
  | zero=>simp
  | succ i =>
   have:=ih i;simp only[List.take_succ_cons,List.flatten_cons,List.length_append,List.map_cons,List.sum_cons];omega
section
variable {w:World} {g:Nat} {t:TypeId} {S:List (List Value)} {L:List Nat}
theorem Ue4 (h:Box w g t S.flatten.toArray)(hl:S.map List.length=L)(i:Nat){o:Nat}(hi:i<L.length)(ho:(L.take i).sum=o):w.rangeAt g o (S.getD i []):=by
 have hS:i<S.length:=by rw[←hl,List.length_map] at hi;exact hi
 rw[Uhx S i hS] at h;exact Box.midRange h (by rw[Uj9,hl,ho])
theorem Uo6 (h:Box w g t S.flatten.toArray)(hl:S.map List.length=L)(i:Nat){o:Nat}{vs:List Value}(hi:i<L.length)(ho:(L.take i).sum=o)(hv:(S.getD i []).length=vs.length):Box (w.setCells g o vs) g t (S.set i vs).flatten.toArray:=by
 have hS:i<S.length:=by rw[←hl,List.length_map] at hi;exact hi
 rw[Uhx S i hS] at h;rw[Uj8 S i vs hS];exact Box.midSet h (by rw[Uj9,hl,ho]) hv
theorem Z4 (h:Box w g t S.flatten.toArray)(hl:S.map List.length=L)(i j:Nat){o:Nat}(hi:i<L.length)(ho:(L.take i).sum=o){u:Value}(hu:(S.getD i [])[j]? = some u):w.cell? ⟨g,o+j,none⟩=some u:=Ue4 h hl i hi ho j u hu
theorem Ue5 (h:Box w g t S.flatten.toArray)(hl:S.map List.length=L)(i j:Nat){o:Nat}(hi:i<L.length)(ho:(L.take i).sum=o)(hj:j<(S.getD i []).length)(u:Value):Box (w.setCell ⟨g,o+j,none⟩ u) g t (S.set i ((S.getD i []).set j u)).flatten.toArray:=by
 have hS:i<S.length:=by rw[←hl,List.length_map] at hi;exact hi
 have h2:=h.set_ (o+j) u;have e:(S.flatten.toArray).setIfInBounds (o+j) u=(S.set i ((S.getD i []).set j u)).flatten.toArray:=by
  rw[List.setIfInBounds_toArray,Uj8 S i _ hS,Uhx S i hS];exact congrArg List.toArray (Us5 (by rw[Uj9,hl,ho]) hj)
 rwa [e] at h2
theorem Z5 (hl:S.map List.length=L):S.flatten.toArray.size=L.sum:=by
 have:=Uj9 S S.length;rw[List.take_length,hl,List.take_of_length_le (by rw[←hl,List.length_map];exact Xa _)] at this;simpa using this
end
def TkX (X:Nat→Prop)(w:World)(cl:List Value)(T:FT):Prop:=cl.length=36∧∃cv code,Ucj w cv code∧Ud0 X cv∧∀W,Ucj W cv code→Yz W (.agg cl.toArray) T
section
variable {X:Nat→Prop} {w w':World} {cl:List Value} {T:FT}
theorem TkX.task (h:TkX X w cl T):Yz w (.agg cl.toArray) T:=by
 obtain⟨_,cv,code,h1,_,h3⟩:=h;exact h3 w h1
theorem TkX.chg (h:TkX X w cl T)(hc:Chg X w w'):TkX X w' cl T:=by
 obtain⟨h0,cv,code,h1,h2,h3⟩:=h;exact⟨h0,cv,code,⟨h1.1.chg h2 hc,h1.2⟩,h2,h3⟩
theorem TkX.low (h:TkX X w cl T):TkX (fun k=>X k∨w.heap.size≤k) w cl T:=by
 obtain⟨h0,cv,code,h1,h2,h3⟩:=h;exact⟨h0,cv,code,h1,Uhu h1.1 h2,h3⟩
theorem TkX.mono {Y:Nat→Prop}(h:TkX X w cl T)(hY:∀k,Y k→X k):TkX Y w cl T:=by
 obtain⟨h0,cv,code,h1,h2,h3⟩:=h;exact⟨h0,cv,code,h1,h2.mono hY,h3⟩
end
structure Bch where
 mem:List Int
 cals:Uag
 lists:List (List (List Int))
 lag:Int
 pub:List FT
 begun:List Int
 tail:List Int
 head:List Int
 drops:List Int
 fuse:FT
 phase:Int
 top:Int
 m:Mrg
 x:Sta
 ver:Int
 reads:List FT
structure Rep where
 mem:Value
 lists:List Value
 pub:List (List Value)
 fuse:List Value
 vs:List Value
 reads:List (List Value)
def Ucb (l:List Int):List Value:=l.map (Value.int .i64)
def Ym (b:Bch)(R:Rep):List (List Value) :=
 [[R.mem],b.cals.list,R.lists,[.int .i64 b.lag],R.pub.flatten,Ucb b.begun,Ucb b.tail,Ucb b.head,Ucb b.drops,R.fuse,[.int .i64 b.phase],[.int .i64 b.top],Ul b.m R.vs,b.x.list,[.int .i64 b.ver],R.reads.flatten]
def Uf0:List Nat:=[1,20,4,1,144,4,4,4,4,36,1,1,19,29,1,72]
def ncs (b:Bch)(R:Rep):Array Value:=(Ym b R).flatten.toArray
def nv (b:Bch)(R:Rep):Value := .agg (ncs b R)
structure BnX (X:Nat→Prop) (w:World) (R:Rep) (b:Bch):Prop where
 mem:WdX X w R.mem b.mem
 ll:R.lists.length=4
 lists:∀k,k<4→∃es,WsX X w (R.lists.getD k (.bool false)) es (b.lists.getD k [])
 pl:R.pub.length=4
 pub:∀k,k<4→∃T,b.pub[k]? = some T∧TkX X w (R.pub.getD k []) T
 fuse:TkX X w R.fuse b.fuse
 q:QsX X w R.vs b.m
 rl:R.reads.length=2
 reads:∀k,k<2→∃T,b.reads[k]? = some T∧TkX X w (R.reads.getD k []) T
section
variable {X:Nat→Prop} {w w':World} {R:Rep} {b:Bch}
theorem BnX.chg (h:BnX X w R b)(hc:Chg X w w'):BnX X w' R b :=
 ⟨h.mem.chg hc,h.ll,fun k hk=>by obtain⟨es,he⟩:=h.lists k hk;exact⟨es,he.chg hc⟩,h.pl,fun k hk=>by obtain⟨T,e,ht⟩:=h.pub k hk;exact⟨T,e,ht.chg hc⟩,h.fuse.chg hc,h.q.chg hc,h.rl,fun k hk=>by obtain⟨T,e,ht⟩:=h.reads k hk;exact⟨T,e,ht.chg hc⟩⟩
theorem BnX.below (h:BnX X w R b)(hb:Below w.heap.size w w'):BnX X w' R b:=h.chg (Chg.of hb)
theorem BnX.low (h:BnX X w R b):BnX (fun k=>X k∨w.heap.size≤k) w R b :=
 ⟨h.mem.low,h.ll,fun k hk=>by obtain⟨es,he⟩:=h.lists k hk;exact⟨es,he.low⟩,h.pl,fun k hk=>by obtain⟨T,e,ht⟩:=h.pub k hk;exact⟨T,e,ht.low⟩,h.fuse.low,h.q.low,h.rl,fun k hk=>by obtain⟨T,e,ht⟩:=h.reads k hk;exact⟨T,e,ht.low⟩⟩
theorem BnX.mono {Y:Nat→Prop}(h:BnX X w R b)(hY:∀k,Y k→X k):BnX Y w R b :=
 ⟨h.mem.mono hY,h.ll,fun k hk=>by obtain⟨es,he⟩:=h.lists k hk;exact⟨es,he.mono hY⟩,h.pl,fun k hk=>by obtain⟨T,e,ht⟩:=h.pub k hk;exact⟨T,e,ht.mono hY⟩,h.fuse.mono hY,h.q.mono hY,h.rl,fun k hk=>by obtain⟨T,e,ht⟩:=h.reads k hk;exact⟨T,e,ht.mono hY⟩⟩
end
structure Uwz (n:Int) (l:List Int):Prop where
 len:l.length=4
 lo:∀k,k<4→0≤l.getD k 0
 hi:∀k,k<4→l.getD k 0≤n
structure Ya (n:Int) (b:Bch):Prop where
 begun:Uwz n b.begun
 tail:Uwz n b.tail
 head:Uwz n b.head
 drops:Uwz n b.drops
 has:∀k,k<4→b.begun.getD k 0≤((b.lists.getD k []).length:Int)
 lists:∀k,k<4→(b.lists.getD k []).length≤40∧∀ws,ws∈b.lists.getD k []→ws.length=6
 lag:Ua0 b.lag
 ph0:0≤b.phase
 ph4:b.phase≤4
 top:Ua0 b.top
 m:Uaz b.m
 x:Ual b.x
 ver0:0≤b.ver
 ver:b.ver≤n
theorem Ufu {l:List (List Value)}{n:Nat}(h:∀k,k<l.length→(l.getD k []).length=n):l.flatten.length=l.length*n:=by
 induction l with
 | nil=>simp
 | cons a l ih =>
  have h0:=h 0 (by simp);have h1:=ih (fun k hk=>by have:=h (k+1) (by simpa using hk);simpa using this);rw[List.flatten_cons,List.length_append,h1,List.length_cons];simp at h0;rw[h0,Nat.add_mul];omega
theorem BnX.lens {X:Nat→Prop}{w:World}{R:Rep}{b:Bch}{n:Int}(h:BnX X w R b)(hs:Ya n b):(Ym b R).map List.length=Uf0:=by
 have h1:R.pub.flatten.length=144:=by rw[Ufu (n:=36) (fun k hk=>by obtain⟨T,_,ht⟩:=h.pub k (by rw[h.pl] at hk;exact hk);exact ht.1),h.pl]
 have h2:R.reads.flatten.length=72:=by rw[Ufu (n:=36) (fun k hk=>by obtain⟨T,_,ht⟩:=h.reads k (by rw[h.rl] at hk;exact hk);exact ht.1),h.rl]
 have h3:b.cals.list.length=20:=rfl;have h4:b.x.list.length=29:=rfl;have h5:R.fuse.length=36:=h.fuse.1;simp only[Ym,Ucb,List.map_cons,List.map_nil,List.length_map,List.length_singleton,h1,h2,h3,h4,h5,h.ll,hs.begun.len,hs.tail.len,hs.head.len,hs.drops.len,Uu h.q.len h.q.nl]
 rfl
theorem Uut:(prog.info? 55).map (·.size)=some 345:=by kernel_rfl
theorem Uaw {X:Nat→Prop}{w:World}{R:Rep}{b:Bch}{n:Int}(h:BnX X w R b)(hs:Ya n b):(prog.info? 55).map (·.size)=some (ncs b R).size:=by
 have e:(ncs b R).size=345:=Z5 (h.lens hs);rw[e];exact Uut
end Go.Proofs.YtdaflmjfeoacaaaGreat
