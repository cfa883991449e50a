/- Part of the proof of TopTry, TopSplit: ToF. Conditions: none. -/
import Derived.Test.YtdaflmjfeoacaaaGreatZbbu
set_option linter.all false
set_option maxHeartbeats 16000000
set_option maxRecDepth 4000
namespace Go.Proofs.YtdaflmjfeoacaaaGreat
open Tryz
open Go.RowKit Go.Shelf
theorem U1l {t:TypeId}{n:Nat}(h:(prog.info? t).map (·.size)=some n):∃i,prog.info? t=some i:=by
 cases hh:prog.info? t with
 | none=>rw[hh] at h;cases h
 | some i=>exact⟨i,rfl⟩
theorem U1m (d:Nat){t:TypeId}{n:Nat}(hu:prog.underlying t=some (.array n 3))(xs:List Int)(hl:xs.length=n)(w:World) :
  (Op.equalIn (d+2) t (.agg (xs.map (Value.int .i64)).toArray) (.agg (xs.map (Value.int .i64)).toArray)).run prog w = .ok true w:=by
 obtain⟨i0,hi⟩:=U1l (t:=3) (n:=1) (by kernel_rfl);have h1:=run_equalIn_array (P:=prog) w (d+1) (xs.map (Value.int .i64)).toArray (xs.map (Value.int .i64)).toArray hu hi;rw[Uqs] at h1;rw[h1,Ujf (xs:=xs) (ys:=xs) d (List.range n) w (fun i hi=>by rw[hl];simpa using hi)];simp
theorem Utp (d:Nat)(a:Axs)(w:World):(Op.equalIn (d+3) 49 (.agg a.list.toArray) (.agg a.list.toArray)).run prog w = .ok true w:=by
 obtain⟨a,b,c,e,f,g⟩:=a;show(Op.equalIn (d+3) 49 (.agg #[.int .i64 a,.int .i64 b,.int .i64 c,.int .i64 e,.int .i64 f,.bool g]) (.agg #[.int .i64 a,.int .i64 b,.int .i64 c,.int .i64 e,.int .i64 f,.bool g])).run prog w=_;rw[run_equalIn_struct _ (d+2) 49 _ _ (by kernel_rfl) (by kernel_rfl)];simp[go_sem]
theorem U6q (d:Nat)(a:Pos)(w:World):(Op.equalIn (d+4) 47 (.agg a.list.toArray) (.agg a.list.toArray)).run prog w = .ok true w:=by
 obtain⟨⟨q0,q1,q2,q3⟩,⟨w0,w1,w2⟩,bd⟩:=a;have h1:=fun w=>U1m (d+1) (t:=38) underlying38 [q0,q1,q2,q3] rfl w
 have h2:=fun w=>U1m (d+1) (t:=24) underlying24 [w0,w1,w2] rfl w
 show(Op.equalIn (d+4) 47 (.agg #[.int .i64 q0,.int .i64 q1,.int .i64 q2,.int .i64 q3,.int .i64 w0,.int .i64 w1,.int .i64 w2,.bool bd]) (.agg #[.int .i64 q0,.int .i64 q1,.int .i64 q2,.int .i64 q3,.int .i64 w0,.int .i64 w1,.int .i64 w2,.bool bd])).run prog w=_;rw[run_equalIn_struct _ (d+3) 47 _ _ (by kernel_rfl) (by kernel_rfl)];simp only[List.map_cons,List.map_nil] at h1 h2;simp[go_sem,h1,h2]
theorem U6r (d:Nat)(a b c:Axs)(w:World):(Op.equalIn (d+4) 50 (.agg (a.list++b.list++c.list).toArray) (.agg (a.list++b.list++c.list).toArray)).run prog w = .ok true w:=by
 obtain⟨i0,hi⟩:=U1l (t:=49) (n:=6) (by kernel_rfl);have h1:=run_equalIn_array (P:=prog) w (d+3) (a.list++b.list++c.list).toArray (a.list++b.list++c.list).toArray (t:=50) underlying50 hi;have e:prog.cellsOf 49=6:=by kernel_rfl
 rw[h1,e];have ha:=fun w=>Utp d a w
 have hb:=fun w=>Utp d b w
 have hc:=fun w=>Utp d c w
 have p0:∀w,(part 49 (a.list++b.list++c.list).toArray 0).run prog w = .ok (.agg a.list.toArray) w:=fun w=>by obtain⟨a0,a1,a2,a3,a4,a5⟩:=a;obtain⟨b0,b1,b2,b3,b4,b5⟩:=b;obtain⟨c0,c1,c2,c3,c4,c5⟩:=c;kernel_rfl
 have p1:∀w,(part 49 (a.list++b.list++c.list).toArray 6).run prog w = .ok (.agg b.list.toArray) w:=fun w=>by obtain⟨a0,a1,a2,a3,a4,a5⟩:=a;obtain⟨b0,b1,b2,b3,b4,b5⟩:=b;obtain⟨c0,c1,c2,c3,c4,c5⟩:=c;kernel_rfl
 have p2:∀w,(part 49 (a.list++b.list++c.list).toArray 12).run prog w = .ok (.agg c.list.toArray) w:=fun w=>by obtain⟨a0,a1,a2,a3,a4,a5⟩:=a;obtain⟨b0,b1,b2,b3,b4,b5⟩:=b;obtain⟨c0,c1,c2,c3,c4,c5⟩:=c;kernel_rfl
 have er:List.range 3=[0,1,2]:=rfl;rw[er];generalize (a.list++b.list++c.list).toArray=z at *;simp[Op.eqItems,p0,p1,p2,ha,hb,hc]
theorem Upg (x:Sta):∀w,(binOp .eql 52 (stv x) (stv x)).run prog w = .ok (.bool true) w:=fun w=>by
 have hp:∀w,(Op.equalIn 9999 47 (.agg x.pose.list.toArray) (.agg x.pose.list.toArray)).run prog w = .ok true w:=fun w=>U6q 9995 x.pose w
 have hx:∀w,(Op.equalIn 9999 50 (.agg (x.x0.list++x.x1.list++x.x2.list).toArray) (.agg (x.x0.list++x.x1.list++x.x2.list).toArray)).run prog w = .ok true w:=fun w=>U6r 9995 x.x0 x.x1 x.x2 w
 have p1:x.list.toArray.extract 3 11=x.pose.list.toArray:=by kernel_rfl
 have p2:x.list.toArray.extract 11 29=(x.x0.list++x.x1.list++x.x2.list).toArray:=by kernel_rfl
 have q0:x.list.toArray[0]? = some (.int .i64 x.t):=rfl;have q1:x.list.toArray[1]? = some (.int .i64 x.n):=rfl;have q2:x.list.toArray[2]? = some (.int .i64 x.out):=rfl;unfold stv Sta.cells;rw[run_eql_struct,run_equalIn_struct _ 9999 52 _ _ (by kernel_rfl) (by kernel_rfl)];generalize x.list.toArray=cs at *;generalize x.pose.list.toArray=ps at *;generalize (x.x0.list++x.x1.list++x.x2.list).toArray=zs at *;simp[go_sem,p1,p2,q0,q1,q2,hp,hx]
theorem Ubf {P:Program}{w:World}{ops:Array Oper}{rest:List Oper}{o:Oper}{a:Act}{Q:Exit→Act→World→Prop}(ty:TypeId)(x:Operand)(ho:o.op = .load ty x)(hw:Region.wanted o (yielded ops a.tmps)=true)
  (h:Zr P ops Q rest o ty x a w):wpList P ops Q (o::rest) a w:=by
 obtain⟨g,off,cs,d,hx,hc,hu,hd,hi,h⟩:=h;show(if Region.wanted o (yielded ops a.tmps) then _ else _);rw[if_pos hw];exact Or.inl (wp_load_mid ty x ho g off hx cs d hc hu hd hi h)
end Go.Proofs.YtdaflmjfeoacaaaGreat
