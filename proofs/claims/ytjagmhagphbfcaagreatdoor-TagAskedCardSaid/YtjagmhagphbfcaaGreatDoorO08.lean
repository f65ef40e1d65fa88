/- Lemmas, part 8. -/
import Derived.Conc.SmallLaws
import Derived.Conc.AppendWalk
import Derived.Laws.MakeOwn
import Derived.Test.YtjagmhagphbfcaaGreatDoorO07
set_option maxRecDepth 100000
set_option linter.all false
namespace Go.Proofs.YtjagmhagphbfcaaGreatDoor
def ae8:=@Go.Proofs.Tryz.underlying28
open Go Go.Conc Go.Proofs
theorem sa(w:World)(es:Array Event)(a:Addr)(m:Mode)(b:Option Addr)(l c:Nat):(store a (.slice b l c) m).events Tryz.prog w es=storedEv Tryz.prog w es a (.slice b l c) m:=events_store Tryz.prog w es a _ m rfl
theorem ze(w:World)(es:Array Event)(a:Addr)(m:Mode)(s:ByteArray):(store a (.string s) m).events Tryz.prog w es=storedEv Tryz.prog w es a (.string s) m:=events_store Tryz.prog w es a _ m rfl
theorem HS(w:World)(es:Array Event)(a:Addr)(m:Mode)(b:Option Nat):(store a (.map b) m).events Tryz.prog w es=storedEv Tryz.prog w es a (.map b) m:=events_store Tryz.prog w es a _ m rfl
section
variable{o:Oper}{ev:Operand->Value}{a b:Operand}{B i:Nat}{u v:Value}{w:World}{e:TypeId}{xs:Array Value}
theorem M7(hop:o.op=.move a)(p:ev a=v):(execOp ev o).run Tryz.prog w=.ok (.value v) w/\(execOp ev o).events Tryz.prog w #[]= #[]:=by
 simp_all [execOp]
theorem D9(hop:o.op=.assign a)(p:ev a=v):(execOp ev o).run Tryz.prog w=.ok (.value v) w/\(execOp ev o).events Tryz.prog w #[]= #[]:=by
 simp_all [execOp]
theorem zQ(hop:o.op=.extract a i)(p:ev a=.tuple xs)(hx:xs[i]?=some v):(execOp ev o).run Tryz.prog w=.ok (.value v) w/\(execOp ev o).events Tryz.prog w #[]= #[]:=by
 constructor <;>simp[execOp,hop,p,hx,go_sem]
theorem lk{x y:Int}(hop:o.op=.binOp .lss 3 a b 3)(ha:ev a=.int .i64 x)(hb:ev b=.int .i64 y):(execOp ev o).run Tryz.prog w=.ok (.value (.bool (decide (x<y)))) w/\(execOp ev o).events Tryz.prog w #[]= #[]:=by
 constructor <;>simp[execOp,hop,ha,hb,go_sem]
theorem zR{x y:Int}(hop:o.op=.binOp .add 3 a b 3)(ha:ev a=.int .i64 x)(hb:ev b=.int .i64 y):(execOp ev o).run Tryz.prog w=.ok (.value (.int .i64 (IntKind.i64.wrap (x+y)))) w/\(execOp ev o).events Tryz.prog w #[]= #[]:=by
 constructor <;>simp[execOp,hop,ha,hb,go_sem]
theorem IZ{k:IntKind}{x:Int}(hop:o.op=.binOp .neq 29 a b 29)(ha:ev a=.int k x)(hb:ev b=.int k 0):(execOp ev o).run Tryz.prog w=.ok (.value (.bool (!decide (x=0)))) w/\(execOp ev o).events Tryz.prog w #[]= #[]:=by
 constructor
 ·simp[execOp,hop,ha,hb,go_sem];rfl
 ·simp[execOp,hop,ha,hb,go_sem]
theorem kj(hop:o.op=.fieldAddr 25 a 4)(ha:ev a=.pointer (some ⟨B,0,none⟩)):(execOp ev o).run Tryz.prog w=.ok (.value (.pointer (some ⟨B,4,none⟩))) w/\(execOp ev o).events Tryz.prog w #[]= #[]:=by
 constructor <;>simp[execOp,hop,ha,go_sem]
theorem uv(hop:o.op=.fieldAddr 134 a 0)(ha:ev a=.pointer (some ⟨B,0,none⟩)):(execOp ev o).run Tryz.prog w=.ok (.value (.pointer (some ⟨B,0,none⟩))) w/\(execOp ev o).events Tryz.prog w #[]= #[]:=by
 constructor <;>simp[execOp,hop,ha,go_sem]
theorem uu(hop:o.op=.fieldAddr 134 a 1)(ha:ev a=.pointer (some ⟨B,0,none⟩)):(execOp ev o).run Tryz.prog w=.ok (.value (.pointer (some ⟨B,1,none⟩))) w/\(execOp ev o).events Tryz.prog w #[]= #[]:=by
 constructor <;>simp[execOp,hop,ha,go_sem]
theorem pE{p:Option Addr}{n m:Nat}{ty:TypeId}(hop:o.op=.call { callee:=.builtin .len,args:= #[a],argTypes:= #[ty] })(ha:ev a=.slice p n m)(ht:Tryz.prog.underlying ty=some (.slice (Tryz.prog.elem ty))):(execOp ev o).run Tryz.prog w=.ok (.value (.int .i64 n)) w/\(execOp ev o).events Tryz.prog w #[]= #[]:=by
 constructor
 ·simp[execOp,hop,ha,go_sem,run_len_slice (P:=Tryz.prog) (w:=w) (t:=ty) (ty:=o.type) (base:=p) (n:=n) (c:=m) ht]
 ·simp[execOp,hop,ha,go_sem,events_len_slice (P:=Tryz.prog) (w:=w) (t:=ty) (ty:=o.type) (base:=p) (n:=n) (c:=m) ht]
theorem wW{s1 s2 s3:ByteArray}{v4 v5 v6:Value}{z:Int}(I:∃p n m,v4=.slice p n m)(H:∃p n m,v5=.slice p n m)(E:∃p,v6=.map p)(hop:o.op=.build 107 #[(0,a),(2,b)])(ha:ev a=.agg #[.string s1,.string s2,.string s3,v4,v5,v6])(hb:ev b=.int .i64 z):(execOp ev o).run Tryz.prog w=.ok (.value (.agg #[.string s1,.string s2,.string s3,v4,v5,v6,.string ⟨#[]⟩,.int .i64 z])) w/\(execOp ev o).events Tryz.prog w #[]= #[]:=by
 obtain⟨p4,n4,m4,rfl⟩:=I;obtain⟨p5,n5,m5,rfl⟩:=H;obtain⟨p6,rfl⟩:=E;constructor <;>simp[execOp,hop,ha,hb,go_sem]
theorem D8(hop:o.op=.makeFunc (.func 77) #[a] #[])(ha:ev a=v):(execOp ev o).run Tryz.prog w=.ok (.value (.func (.func 77) #[v] #[])) w/\(execOp ev o).events Tryz.prog w #[]= #[]:=by
 constructor <;>simp[execOp,hop,ha,go_sem]
theorem wV(hop:o.op=.makeChan 131 a)(ha:ev a=.int .i64 0):(execOp ev o).run Tryz.prog w=.ok (.value (.chan (some w.heap.size))) (w.alloc (.chan 0 #[] false 0 0 false))/\(execOp ev o).events Tryz.prog w #[]= #[]:=by
 have h1:=run_makeChan (P:=Tryz.prog) (w:=w) (t:=131) Tryz.underlying131 Tryz.type134 .i64 0 (by decide) (by decide);have h2:=events_makeChan (P:=Tryz.prog) (w:=w) (t:=131) Tryz.underlying131 Tryz.type134 .i64 0 (by decide) (by decide) #[]
 simp_all [execOp]
theorem ur{n:Nat}(hop:o.op=.makeSlice 28 a a)(ha:ev a=.int .i64 n)(hn:n<1000000):(execOp ev o).run Tryz.prog w=.ok (.value (.slice (some ⟨w.heap.size,0,none⟩) n n)) (w.alloc (.cells (madeCells #[.int .i64 0] n) 3))/\(execOp ev o).events Tryz.prog w #[]= #[]:=by
 have h1:=run_makeSlice (P:=Tryz.prog) w 28 3 _ (.int .i64 0) ae8 Tryz.type3 rfl .i64 .i64 n n (by omega) (by omega) (by show((n:Int).toNat*1<=16777216);omega) (by show((8:Nat):Int)*n<=281474976710656;omega) (by omega);have h2:=events_make (P:=Tryz.prog) w 28 3 _ (.int .i64 0) ae8 Tryz.type3 rfl .i64 .i64 n n (by omega) (by omega) (by show((8:Nat):Int)*n<=281474976710656;omega) (by omega) (by show(n:Int).toNat*8<=_;omega) #[];constructor
 ·simp only[execOp,hop,ha,aaw];rw[h1];show Result.ok (Next.value (.slice (some ⟨w.heap.size,0,none⟩) n n)) (w.alloc (.cells (madeCells #[.int .i64 0] (n*1)) 3))=_;rw[Nat.mul_one]
 simp_all [execOp]
theorem vB{n m:Nat}{k:Nat}(hop:o.op=.indexAddr 28 a b)(ha:ev a=.slice (some ⟨B,0,none⟩) n m)(hb:ev b=.int .i64 k)(hk:k<n):(execOp ev o).run Tryz.prog w=.ok (.value (.pointer (some ⟨B,k,none⟩))) w/\(execOp ev o).events Tryz.prog w #[]= #[]:=by
 constructor <;>simp[execOp,hop,ha,hb,hk,go_sem]
theorem st3(hop:o.op=.store 3 a b)(ha:ev a=.pointer (some ⟨B,i,none⟩))(hb:ev b=v)(hv:∃z,v=.int .i64 z)(hh:Holds w B xs e)(hi:i<xs.size):(execOp ev o).run Tryz.prog w=.ok .skip { w with heap:=w.heap.setIfInBounds B (.cells (xs.setIfInBounds i v) e) } /\∀x∈(execOp ev o).events Tryz.prog w #[],∃j wr,x=⟨.cell ⟨B,j,none⟩,wr,false⟩:=by
 obtain⟨z,rfl⟩:=hv;have hc:w.cell? ⟨B,i,none⟩=some xs[i]:=by rw[hh.cell];simp_all
 have hf:=ib (i:=i) hh;have hs:=cf (i:=i) hh (.int .i64 z);refine⟨by simp[execOp,hop,ha,hb,go_sem,hc,hf,hs],λx h=>?_⟩;simp[execOp,hop,ha,hb,go_sem,hc,hf] at h
 grind
theorem Tt{c:Nat}{p:Value}(hop:o.op=.store 131 a b)(ha:ev a=.pointer (some ⟨B,0,none⟩))(hb:ev b=.chan (some c))(hh:Holds w B #[p] e):(execOp ev o).run Tryz.prog w=.ok .skip { w with heap:=w.heap.setIfInBounds B (.cells #[.chan (some c)] e) } /\∀x∈(execOp ev o).events Tryz.prog w #[],∃j wr,x=⟨.cell ⟨B,j,none⟩,wr,false⟩:=by
 have hc:w.cell? ⟨B,0,none⟩=some p:=by rw[hh.cell];rfl
 have hf:=ib (i:=0) hh;have hs:=cf (i:=0) hh (.chan (some c));refine⟨by simp[execOp,hop,ha,hb,go_sem,hc,hf,hs],λx h=>?_⟩;simp[execOp,hop,ha,hb,go_sem,hc,hf] at h
 grind
theorem Zh{p:Option Addr}{n m:Nat}{E:Value}(hop:o.op=.store 28 a b)(ha:ev a=.pointer (some ⟨B,0,none⟩))(hb:ev b=.slice p n m)(hh:Holds w B #[E] e):(execOp ev o).run Tryz.prog w=.ok .skip { w with heap:=w.heap.setIfInBounds B (.cells #[.slice p n m] e) } /\∀x∈(execOp ev o).events Tryz.prog w #[],∃j wr,x=⟨.cell ⟨B,j,none⟩,wr,false⟩:=by
 have hc:w.cell? ⟨B,0,none⟩=some E:=by rw[hh.cell];rfl
 have hf:=ib (i:=0) hh;have hs:=cf (i:=0) hh (.slice p n m);refine⟨by simp[execOp,hop,ha,hb,go_sem,hc,hf,hs],λx h=>?_⟩;simp[execOp,hop,ha,hb,go_sem,hc,hf,sa,storedEv] at h
 grind
theorem Ts{x y:Int}{p x1:Value}(hop:o.op=.store 134 a b)(ha:ev a=.pointer (some ⟨B,0,none⟩))(hb:ev b=.agg #[.int .i64 x,.int .i64 y])(hh:Holds w B #[p,x1] e):(execOp ev o).run Tryz.prog w=.ok .skip { w with heap:=w.heap.setIfInBounds B (.cells #[.int .i64 x,.int .i64 y] e) } /\∀x∈(execOp ev o).events Tryz.prog w #[],∃j wr,x=⟨.cell ⟨B,j,none⟩,wr,false⟩:=by
 have I:B<w.heap.size:=(aah.1 hh).1;have h1:(w.setCell ⟨B,0,none⟩ (.int .i64 x))= { w with heap:=w.heap.setIfInBounds B (.cells #[.int .i64 x,x1] e) } :=cf hh _;have hh1:Holds (w.setCell ⟨B,0,none⟩ (.int .i64 x)) B #[.int .i64 x,x1] e:=by rw[h1];exact aaz I
 have hc:w.cell? ⟨B,0,none⟩=some p:=by rw[hh.cell];rfl
 have J:w.cell? ⟨B,1,none⟩=some x1:=by rw[hh.cell];rfl
 have hf:=ib (i:=0) hh;have L:=ib (i:=1) hh;have h2:(w.setCell ⟨B,0,none⟩ (.int .i64 x)).setCell ⟨B,1,none⟩ (.int .i64 y)= { w with heap:=w.heap.setIfInBounds B (.cells #[.int .i64 x,.int .i64 y] e) } :=by
  rw[cf hh1,h1];simp
 have H:(w.setCell ⟨B,0,none⟩ (.int .i64 x)).cell? ⟨B,1,none⟩=some x1:=by rw[hh1.cell];rfl
 have E:=ib (i:=1) hh1;refine⟨by simp[execOp,hop,ha,hb,go_sem,hc,hf,H,E,h2],λx h=>?_⟩;simp[execOp,hop,ha,hb,go_sem,hc,hf,H,E] at h
 grind
theorem Zg{s1 s2 s3:ByteArray}{p4 p5:Option Addr}{n4 m4 n5 m5:Nat}{p6:Option Nat}{x0 x1 x2 H E p:Value}(hop:o.op=.store 99 a b)(ha:ev a=.pointer (some ⟨B,0,none⟩))(hb:ev b=.agg #[.string s1,.string s2,.string s3,.slice p4 n4 m4,.slice p5 n5 m5,.map p6])(hh:Holds w B #[x0,x1,x2,H,E,p] e):(execOp ev o).run Tryz.prog w=.ok .skip { w with heap:=w.heap.setIfInBounds B (.cells #[.string s1,.string s2,.string s3,.slice p4 n4 m4,.slice p5 n5 m5,.map p6] e) } /\∀x∈(execOp ev o).events Tryz.prog w #[],∃j wr,x=⟨.cell ⟨B,j,none⟩,wr,false⟩:=by
 have I:B<w.heap.size:=(aah.1 hh).1;have g0:(w).setCell ⟨B,0,none⟩ (.string s1)= { w with heap:=w.heap.setIfInBounds B (.cells #[(.string s1),x1,x2,H,E,p] e) } :=by rw[cf hh];rfl
 generalize W:(w).setCell ⟨B,0,none⟩ (.string s1)=w0 at g0;have M:Holds w0 B #[(.string s1),x1,x2,H,E,p] e:=by rw[g0];exact aaz I
 have kC:=g0;have g1:(w0).setCell ⟨B,1,none⟩ (.string s2)= { w with heap:=w.heap.setIfInBounds B (.cells #[(.string s1),(.string s2),x2,H,E,p] e) } :=by rw[cf M];simp[kC]
 generalize Z:(w0).setCell ⟨B,1,none⟩ (.string s2)=w1 at g1;have k1:Holds w1 B #[(.string s1),(.string s2),x2,H,E,p] e:=by rw[g1];exact aaz I
 have TI:=g1;have g2:(w1).setCell ⟨B,2,none⟩ (.string s3)= { w with heap:=w.heap.setIfInBounds B (.cells #[(.string s1),(.string s2),(.string s3),H,E,p] e) } :=by rw[cf k1];simp[TI]
 generalize U:(w1).setCell ⟨B,2,none⟩ (.string s3)=w2 at g2;have k2:Holds w2 B #[(.string s1),(.string s2),(.string s3),H,E,p] e:=by rw[g2];exact aaz I
 have sK:=g2;have g3:(w2).setCell ⟨B,3,none⟩ (.slice p4 n4 m4)= { w with heap:=w.heap.setIfInBounds B (.cells #[(.string s1),(.string s2),(.string s3),(.slice p4 n4 m4),E,p] e) } :=by rw[cf k2];simp[sK]
 generalize O:(w2).setCell ⟨B,3,none⟩ (.slice p4 n4 m4)=w3 at g3;have L:Holds w3 B #[(.string s1),(.string s2),(.string s3),(.slice p4 n4 m4),E,p] e:=by rw[g3];exact aaz I
 have hw3:=g3;have g4:(w3).setCell ⟨B,4,none⟩ (.slice p5 n5 m5)= { w with heap:=w.heap.setIfInBounds B (.cells #[(.string s1),(.string s2),(.string s3),(.slice p4 n4 m4),(.slice p5 n5 m5),p] e) } :=by rw[cf L];simp[hw3]
 generalize N:(w3).setCell ⟨B,4,none⟩ (.slice p5 n5 m5)=w4 at g4;have J:Holds w4 B #[(.string s1),(.string s2),(.string s3),(.slice p4 n4 m4),(.slice p5 n5 m5),p] e:=by rw[g4];exact aaz I
 have hw4:=g4;have g5:(w4).setCell ⟨B,5,none⟩ (.map p6)= { w with heap:=w.heap.setIfInBounds B (.cells #[(.string s1),(.string s2),(.string s3),(.slice p4 n4 m4),(.slice p5 n5 m5),(.map p6)] e) } :=by rw[cf J];simp[hw4]
 generalize Y:(w4).setCell ⟨B,5,none⟩ (.map p6)=w5 at g5;have k5:Holds w5 B #[(.string s1),(.string s2),(.string s3),(.slice p4 n4 m4),(.slice p5 n5 m5),(.map p6)] e:=by rw[g5];exact aaz I
 have hw5:=g5;refine⟨by simp[execOp,hop,ha,hb,go_sem,hh.cell,ib hh,W,M.cell,ib M,Z,k1.cell,ib k1,U,k2.cell,ib k2,O,L.cell,ib L,N,J.cell,ib J,Y,hw5],λx h=>?_⟩;simp[execOp,hop,ha,hb,go_sem,sa,ze,HS,storedEv,hh.cell,ib hh,W,M.cell,ib M,Z,k1.cell,ib k1,U,k2.cell,ib k2,O,L.cell,ib L,N,J.cell,ib J] at h
 grind
end
end Go.Proofs.YtjagmhagphbfcaaGreatDoor
