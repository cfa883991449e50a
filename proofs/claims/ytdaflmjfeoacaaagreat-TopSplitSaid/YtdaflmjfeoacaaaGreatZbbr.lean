/- Part of the proof of TopTry, TopSplit: BeQ. Conditions: none. -/
import Derived.Shelf.SlicesE.DeleteFunc
import Derived.Test.YtdaflmjfeoacaaaGreatZbbq
set_option linter.all false
set_option maxHeartbeats 16000000
set_option maxRecDepth 4000
namespace Go.Proofs.YtdaflmjfeoacaaaGreat
open Tryz
open Go.RowKit Go.Shelf
abbrev U3i:=Option Addr×Nat×Nat
def Uxv (x:U3i):Value := .slice x.1 x.2.1 x.2.2
def Uru:Value→U3i
 | .slice A n c=>(A,n,c)
 | _=>(none,0,0)
def U6c (x:U3i):Bool := !decide (x.2.1=6)
def U78:Go.Shelf.Ren:=⟨fun|6=>58|10=>33|n=>n,fun|0=>0|3=>3|4=>4|22=>22|23=>31|25=>97|n=>n,fun|n=>n⟩
theorem U79:Go.Proofs.SlLaysH.n10 prog U78:={
 mixed:=by kernel_rfl
 f6:=⟨Tryz.f58.name,by decide,func58.trans (congrArg some (by kernel_rfl))⟩
 f10:=⟨Tryz.f33.name,by decide,func33.trans (congrArg some (by kernel_rfl))⟩
 t0:=underlying0
 a0:=Tryz.isAgg0
 z0:=Tryz.sizeOf0
 v0:=Tryz.zeroValue0
 t3:=underlying3
 a3:=Tryz.isAgg3
 z3:=Tryz.sizeOf3
 v3:=Tryz.zeroValue3
 t4:=underlying4
 a4:=Tryz.isAgg4
 z4:=Tryz.sizeOf4
 v4:=Tryz.zeroValue4
 t22:=underlying22
 a22:=Tryz.isAgg22
 z22:=Tryz.sizeOf22
 v22:=Tryz.zeroValue22
 a23:=Tryz.isAgg31
 z23:=Tryz.sizeOf31
 t25:=underlying97
 a25:=Tryz.isAgg97
 z25:=Tryz.sizeOf97
 v25:=Tryz.zeroValue97 }
theorem Uw9 (x:U3i)(w:World):Calls prog 35 #[Uxv x] w (fun e w'=>e = .returned (.bool (U6c x))∧w=w'):=by
 obtain⟨A,n,c⟩:=x;have F:Hid (U6c (A,n,c) = !((n:Int)==6)):=Qd (by unfold U6c;dsimp only;congr 1;rw[Bool.eq_iff_iff,decide_eq_true_iff,beq_iff_eq];omega);rw[F.out];clear F;dsimp only[Uxv];go_enter func35,ntmps35;go_wp2_with fail;go_ret;exact⟨by first|rfl|simp[bne],rfl⟩
theorem Uq9 (W:World)(x:U3i):FnGives prog 35 #[] #[Uxv x] (.bool (U6c x)) W :=
 (Uw9 x W).mono fun _ _ ⟨he,hw⟩=>⟨he,0,by rw[←hw];rfl⟩
def Uno (ls:List (List Int)):List (List Int):=ls.filter fun l=>decide (l.length=6)
def Ue9:List Value→List (List Int)→List Value
 | e::es,l::ls=>if l.length=6 then e::Ue9 es ls else Ue9 es ls
 | _,_=>[]
theorem Upc {e:Value}{es:List Value}{l:List Int}{ls:List (List Int)}(h:l.length=6):Ue9 (e::es) (l::ls)=e::Ue9 es ls:=if_pos h
theorem Utk {e:Value}{es:List Value}{l:List Int}{ls:List (List Int)}(h:¬l.length=6):Ue9 (e::es) (l::ls)=Ue9 es ls:=if_neg h
theorem U02 {l:List Int}{ls:List (List Int)}(h:l.length=6):Uno (l::ls)=l::Uno ls:=by unfold Uno;rw[List.filter_cons,if_pos (by simpa using h)]
theorem U4p {l:List Int}{ls:List (List Int)}(h:¬l.length=6):Uno (l::ls)=Uno ls:=by unfold Uno;rw[List.filter_cons,if_neg (by simpa using h)]
theorem U3j:∀(es:List Value) (ls:List (List Int)),es.length=ls.length→(Ue9 es ls).length=(Uno ls).length:=by
 intro es
 induction es with
 | nil=>intro ls h;have:ls=[]:=List.eq_nil_of_length_eq_zero h.symm;subst this;rfl
 | cons e es ih =>
  intro ls h;cases ls with
  | nil=>simp at h
  | cons l ls =>
   have:=ih ls (by simpa using h);by_cases hl:l.length=6
   ·rw[Upc hl,U02 hl,List.length_cons,List.length_cons,this]
   ·rw[Utk hl,U4p hl,this]
theorem U6d:∀(es:List Value) (ls:List (List Int)),es.length=ls.length→∀i,i<(Uno ls).length→∃j,j<ls.length∧(Ue9 es ls).getD i (.bool false)=es.getD j (.bool false)∧(Uno ls).getD i []=ls.getD j []:=by
 intro es
 induction es with
 | nil=>intro ls h i hi;have:ls=[]:=List.eq_nil_of_length_eq_zero h.symm;subst this;simp[Uno] at hi
 | cons e es ih =>
  intro ls h;cases ls with
  | nil=>simp at h
  | cons l ls =>
   intro i hi;have:=ih ls (by simpa using h);by_cases hl:l.length=6
   ·rw[U02 hl] at hi ⊢;rw[Upc hl];cases i with
    | zero=>exact⟨0,by simp,rfl,rfl⟩
    | succ i =>
     obtain⟨j,h1,h2,h3⟩:=this i (by simpa using hi);exact⟨j+1,by simpa using h1,by simpa using h2,by simpa using h3⟩
   ·rw[U4p hl] at hi ⊢;rw[Utk hl];obtain⟨j,h1,h2,h3⟩:=this i hi;exact⟨j+1,by simpa using h1,by simpa using h2,by simpa using h3⟩
theorem U3k:∀(es:List Value) (ls:List (List Int)),es.length=ls.length→(∀i,i<ls.length→∃A c,es.getD i (.bool false) = .slice A (ls.getD i []).length c) →
  (es.map Uru).map Uxv=es∧(((es.map Uru).filter fun x => !U6c x).map Uxv)=Ue9 es ls:=by
 intro es
 induction es with
 | nil=>intro ls h _;exact⟨rfl,by cases ls<;>rfl⟩
 | cons e es ih =>
  intro ls h hw;cases ls with
  | nil=>simp at h
  | cons l ls =>
   have:=ih ls (by simpa using h) (fun i hi=>by have:=hw (i+1) (by simpa using hi);simpa using this);obtain⟨A,c,he⟩:=hw 0 (by simp);simp at he;subst he;refine⟨by simp only[List.map_cons,this.1];rfl,?_⟩;simp only[List.map_cons,List.filter_cons];by_cases hl:l.length=6
   ·rw[if_pos (by simp[Uru,U6c,hl]),Upc hl,List.map_cons,this.2];rfl
   ·rw[if_neg (by simp[Uru,U6c,hl]),Utk hl,this.2]
def U03 (B:Nat)(fs:List Value)(w:World)(e:Ending)(w':World):Prop:=∃v2,e = .returned v2∧Sl w' v2 1 fs.length fs∧(∀X:Nat→Prop,(∀k,X k→k<B)→Ud0 X v2)∧Below B w w'
theorem U3l (w:World):Calls prog 33 #[.slice none 0 0,.func (.func 35) #[] #[]] w (fun e w'=>e = .returned (.slice none 0 0)∧Below w.heap.size w w'):=by
 have K:Hid (∀w,Calls prog 58 #[.slice none 0 0,.func (.func 35) #[] #[]] w (Ub (.int .i64 (-1)) w)):=Qd (fun w=>by
  go_enter func58,ntmps58;go_wp2_with fail;refine wp_loop_rounds 1 ?_;rw[Xq];go_wp2_with fail;go_ret
  exact⟨rfl,Xb _ _⟩)
 go_enter func33,ntmps33;go_wp2_with fail;refine(K.out _).mono ?_;rintro e w1 ⟨rfl,hb⟩;have HB:=Qd hb;clear hb;go_wp2_with fail;go_ret;exact⟨rfl,HB.out⟩
theorem U04 {α:Type} [Inhabited α] (enc:α→Value){w:World}{q g B:Nat}(d:Array α)(hB:B≤g):Below B w (Sort.putRow enc (Sort.ahead w q) g 0 d) :=
 ⟨rfl,rfl,rfl,by rw[Sort.size_putRow];exact Xa _,fun k hk=>by
  unfold Sort.putRow Sort.mapBlock;simp only[Array.getElem?_modify];rw[if_neg (by omega)]
  rfl⟩
theorem U05 {w:World}{B:Nat}{v:Value}{es:List Value}{ls:List (List Int)}(ho:w.ownsRow B 31 1 v es.length es)(hB:B≤w.heap.size)(hl:es.length=ls.length)(hw:∀i,i<ls.length→∃A c,es.getD i (.bool false) = .slice A (ls.getD i []).length c)(hs:es.length≤1000000) :
  Calls prog 33 #[v,.func (.func 35) #[] #[]] w (U03 B (Ue9 es ls) w):=by
 obtain⟨hd1,hd2⟩:=U3k es ls hl hw;have ho0:=ho;rcases ho.2 with ⟨rfl,h0⟩|⟨g,cap,cur,rfl,hg,hh,h1,h2,h3,h4⟩
 ·have he:es=[]:=List.eq_nil_of_length_eq_zero h0;subst he;refine(U3l w).mono ?_;rintro e w1 ⟨rfl,hb⟩;have:Ue9 [] ls=[]:=by cases ls<;>rfl
  rw[this];exact⟨_,rfl,Sl.nil _ 1,fun X _=>Ud0.nil _ _ _,hb.mono hB⟩
 ·have hcell:∀j u,es[j]? = some u→w.cell? ⟨g,0+j,none⟩=some u:=fun j u hu=>by have:=ho.cells (g:=g) rfl j u hu;rwa [Ua7] at this
  have hfr:∀j,w.frozen? ⟨g,j,none⟩=false:=fun j=>Box.frozen (t:=31) (cs:=cur) hh j
  have hds:((es.map Uru).toArray).size=es.length:=by simp
  have hH:Sort.Holds Uxv w g 0 (es.map Uru).toArray:=fun j hj=>by
   rw[hds] at hj;refine⟨?_,hfr _⟩;have e1:es[j]? = some (Uxv ((es.map Uru).toArray)[j]!):=by
    have:(es.map Uru).toArray[j]! = (es.map Uru)[j]'(by simpa using hj):=by rw[getElem!_pos _ j (by simpa using hj)];simp
    rw[this,Xj hj]
    congr 1
    have h:=congrArg (fun l=>l[j]?) hd1;simp only[List.getElem?_map,Xj hj,Option.map_some,Option.some.injEq] at h;rw[List.getElem_map];exact h.symm
   exact hcell j _ e1
  have hK:=AnyE.slices_DeleteFunc (P:=prog) (ρ:=U78) U79 Uxv (fun _=>rfl) U6c 35 #[] (fun args w=>by kernel_rfl) ((none,0,0):U3i) Tryz.zeroValue31 g 0 cap (es.map Uru).toArray w (fun W x _=>Uq9 W x) (fun n os dk x _=>Uq9 _ x) hH (by rw[hds];omega) (by rw[hds];exact h1);rw[hds] at hK;refine hK.mono ?_;rintro e w' ⟨rfl,q,rfl⟩;have hfl:((es.map Uru).toArray.toList.filter fun x => !U6c x).length=(Ue9 es ls).length:=by rw[←hd2];simp
  have hfle:(Ue9 es ls).length≤es.length:=by rw[←hfl];exact Xd (List.length_filter_le _ _) (by simp)
  generalize hfs:((es.map Uru).toArray.toList.filter fun x => !U6c x)=fs at *;have hfm:fs.map Uxv=Ue9 es ls:=by rw[←hd2,←hfs]
  have hsz:((fs++List.replicate ((es.map Uru).toArray.size-fs.length) ((none,0,0):U3i)).toArray).size=(es.map Uru).toArray.size:=by simp only[List.size_toArray,List.length_append,List.length_replicate];rw[hfl];simp at hds ⊢;omega
  have hrs:(fs++List.replicate ((es.map Uru).toArray.size-fs.length) ((none,0,0):U3i))=fs++List.replicate (es.length-fs.length) ((none,0,0):U3i):=by rw[hds]
  have hHd:=Sort.holds_putRow Uxv (Sort.ahead w q) g 0 (es.map Uru).toArray _ (Sort.holds_ahead Uxv w q g 0 _ hH) hsz;rw[hrs] at hHd hsz;refine⟨_,rfl,⟨by simp,some ⟨g,0,none⟩,cap,by rw[hfl],by omega,h2,(fun h=>by cases h),fun hn=>⟨_,rfl,by rw[Sort.size_putRow];exact(Array.getElem?_eq_some_iff.1 hh).1,fun j u hu=>?_⟩⟩,fun X hX a n c e _ hx=>?_,U04 Uxv _ hg⟩
  ·have hj:j<fs.length:=by have:=(List.getElem?_eq_some_iff.1 hu).1;rw[hfl];exact this
   have:=(hHd j (by rw[hsz,hds];omega)).1;rw[Ua7,this];rw[←hfm,List.getElem?_map,Xj hj,Option.map_some] at hu;rw[←hu]
   congr 1
   rw[getElem!_pos _ j (by simp;omega)];simp[List.getElem_append_left hj]
  ·injection e with e1 _ _
   injection e1 with e1
   subst e1;have:=hX _ hx;simp at this;omega
end Go.Proofs.YtdaflmjfeoacaaaGreat
