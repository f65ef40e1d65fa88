/- Lemmas, part 6. -/
import Derived.Test.YtjagmhagphbfcaaGreatDoorProg
import Derived.WalkKit
import Derived.KernelRfl
import Derived.Conc.EventLaws2
import Derived.Test.YtjagmhagphbfcaaGreatDoorO05
set_option maxRecDepth 100000
set_option linter.all false
namespace Go.Proofs.YtjagmhagphbfcaaGreatDoor
open Go Go.Conc Go.Proofs
def tQ(B:Nat)(es:Array Event):Prop:=∀x∈es,∃j,x=⟨.cell ⟨B,j,none⟩,false,false⟩
section
variable{o:Oper}{ev:Operand->Value}{a:Operand}{B i:Nat}{v:Value}{w:World}{e:TypeId}{xs:Array Value}
theorem I2(hop:o.op=.load 131 a)(p:ev a=.pointer (some ⟨B,i,none⟩))(hh:Holds w B xs e)(hx:xs[i]?=some v):(execOp ev o).run Tryz.prog w=.ok (.value v) w/\tQ B ((execOp ev o).events Tryz.prog w #[]):=by
 have hc:w.cell? ⟨B,i,none⟩=some v:=by rw[hh.cell];exact hx
 refine⟨by simp[execOp,hop,p,go_sem,hc],λx h=>?_⟩;simp[execOp,hop,p,go_sem,hc] at h
 grind
theorem LN(hop:o.op=.load 3 a)(p:ev a=.pointer (some ⟨B,i,none⟩))(hh:Holds w B xs e)(hx:xs[i]?=some v):(execOp ev o).run Tryz.prog w=.ok (.value v) w/\tQ B ((execOp ev o).events Tryz.prog w #[]):=by
 have hc:w.cell? ⟨B,i,none⟩=some v:=by rw[hh.cell];exact hx
 refine⟨by simp[execOp,hop,p,go_sem,hc],λx h=>?_⟩;simp[execOp,hop,p,go_sem,hc] at h
 grind
theorem ZI(hop:o.op=.load 28 a)(p:ev a=.pointer (some ⟨B,i,none⟩))(hh:Holds w B xs e)(hx:xs[i]?=some v):(execOp ev o).run Tryz.prog w=.ok (.value v) w/\tQ B ((execOp ev o).events Tryz.prog w #[]):=by
 have hc:w.cell? ⟨B,i,none⟩=some v:=by rw[hh.cell];exact hx
 refine⟨by simp[execOp,hop,p,go_sem,hc],λx h=>?_⟩;simp[execOp,hop,p,go_sem,hc] at h
 grind
theorem Kv(hop:o.op=.load 23 a)(p:ev a=.pointer (some ⟨B,i,none⟩))(hh:Holds w B xs e)(hx:xs[i]?=some v):(execOp ev o).run Tryz.prog w=.ok (.value v) w/\tQ B ((execOp ev o).events Tryz.prog w #[]):=by
 have hc:w.cell? ⟨B,i,none⟩=some v:=by rw[hh.cell];exact hx
 refine⟨by simp[execOp,hop,p,go_sem,hc],λx h=>?_⟩;simp[execOp,hop,p,go_sem,hc] at h
 grind
theorem Rj{v1 v2 v3 v4 v5:Value}(hop:o.op=.load 25 a)(E:ev a=.pointer (some ⟨B,0,none⟩))(hh:Holds w B #[v1,v2,v3,v4,v5] e):(execOp ev o).run Tryz.prog w=.ok (.value (.agg #[v1,v2,v3,v4,v5])) w/\tQ B ((execOp ev o).events Tryz.prog w #[]):=by
 have hc0:w.cell? ⟨B,0,none⟩=some v1:=by rw[hh.cell];rfl
 have J:w.cell? ⟨B,1,none⟩=some v2:=by rw[hh.cell];rfl
 have p:w.cell? ⟨B,2,none⟩=some v3:=by rw[hh.cell];rfl
 have H:w.cell? ⟨B,3,none⟩=some v4:=by rw[hh.cell];rfl
 have I:w.cell? ⟨B,4,none⟩=some v5:=by rw[hh.cell];rfl
 refine⟨by simp[execOp,hop,E,go_sem,hc0,J,p,H,I],λx h=>?_⟩;simp[execOp,hop,E,go_sem,hc0,J,p,H,I] at h
 grind
theorem ZH{v1 v2 v3 v4 v5 v6:Value}(hop:o.op=.load 99 a)(E:ev a=.pointer (some ⟨B,0,none⟩))(hh:Holds w B #[v1,v2,v3,v4,v5,v6] e):(execOp ev o).run Tryz.prog w=.ok (.value (.agg #[v1,v2,v3,v4,v5,v6])) w/\tQ B ((execOp ev o).events Tryz.prog w #[]):=by
 have hc0:w.cell? ⟨B,0,none⟩=some v1:=by rw[hh.cell];rfl
 have J:w.cell? ⟨B,1,none⟩=some v2:=by rw[hh.cell];rfl
 have p:w.cell? ⟨B,2,none⟩=some v3:=by rw[hh.cell];rfl
 have H:w.cell? ⟨B,3,none⟩=some v4:=by rw[hh.cell];rfl
 have I:w.cell? ⟨B,4,none⟩=some v5:=by rw[hh.cell];rfl
 have hc5:w.cell? ⟨B,5,none⟩=some v6:=by rw[hh.cell];rfl
 refine⟨by simp[execOp,hop,E,go_sem,hc0,J,p,H,I,hc5],λx h=>?_⟩;simp[execOp,hop,E,go_sem,hc0,J,p,H,I,hc5] at h
 grind
theorem UH(hop:o.op=.alloc 131):(execOp ev o).run Tryz.prog w=.ok (.value (.pointer (some ⟨w.heap.size,0,none⟩))) (w.alloc (.cells #[.chan none] 131))/\(execOp ev o).events Tryz.prog w #[]= #[]:=by
 constructor <;>simp[execOp,hop,go_sem]
theorem al3(hop:o.op=.alloc 3):(execOp ev o).run Tryz.prog w=.ok (.value (.pointer (some ⟨w.heap.size,0,none⟩))) (w.alloc (.cells #[.int .i64 0] 3))/\(execOp ev o).events Tryz.prog w #[]= #[]:=by
 constructor <;>simp[execOp,hop,go_sem]
theorem acN(hop:o.op=.alloc 28):(execOp ev o).run Tryz.prog w=.ok (.value (.pointer (some ⟨w.heap.size,0,none⟩))) (w.alloc (.cells #[.slice none 0 0] 28))/\(execOp ev o).events Tryz.prog w #[]= #[]:=by
 constructor <;>simp[execOp,hop,go_sem]
theorem acM(hop:o.op=.alloc 99):(execOp ev o).run Tryz.prog w=.ok (.value (.pointer (some ⟨w.heap.size,0,none⟩))) (w.alloc (.cells #[.string ⟨#[]⟩,.string ⟨#[]⟩,.string ⟨#[]⟩,.slice none 0 0,.slice none 0 0,.map none] 99))/\(execOp ev o).events Tryz.prog w #[]= #[]:=by
 constructor <;>simp[execOp,hop,go_sem]
theorem UG(hop:o.op=.alloc 134):(execOp ev o).run Tryz.prog w=.ok (.value (.pointer (some ⟨w.heap.size,0,none⟩))) (w.alloc (.cells #[.int .i64 0,.int .i64 0] 134))/\(execOp ev o).events Tryz.prog w #[]= #[]:=by
 constructor <;>simp[execOp,hop,go_sem]
theorem UA{v1 v2 v3 v4 v5:Value}(hop:o.op=.box 25 a)(p:ev a=.agg #[v1,v2,v3,v4,v5]):(execOp ev o).run Tryz.prog w=.ok (.value (.pointer (some ⟨w.heap.size,0,none⟩))) (w.alloc (.cells #[v1,v2,v3,v4,v5] 25))/\(execOp ev o).events Tryz.prog w #[]= #[]:=by
 constructor <;>simp[execOp,hop,p,go_sem]
end
theorem oF{f:FuncId}{fn:Func}{c:Code}(hf:Tryz.prog.funcs[f]?=some fn)(hb:fn.body=some c)(hn:fn.name≠ "runtime.NumGoroutine")(xs:Array Value)(w:World):
  (callFunc f xs).run Tryz.prog w=.ok (.enter f xs) w/\(callFunc f xs).events Tryz.prog w #[]= #[]:=by
 unfold callFunc
 simp_all
theorem lU{o:Oper}{ev:Operand->Value}{w:World}{f:FuncId}{fn:Func}{c:Code}{xa:Array Operand}{p:Array TypeId}(hop:o.op=.call { callee:=.value (.func f),args:=xa,argTypes:=p })(E:ev (.func f)=.func (.func f) #[] #[])
  (hf:Tryz.prog.funcs[f]?=some fn) (hb:fn.body=some c) (hn:fn.name≠ "runtime.NumGoroutine"):(execOp ev o).run Tryz.prog w=.ok (.enter f (xa.map ev)) w/\(execOp ev o).events Tryz.prog w #[]= #[]:=by
 have e:execOp ev o=callFunc f (xa.map ev):=by
  grind [execOp,resolve,Deferred.ofValue,invoke]
 grind [oF]
theorem FH{o:Oper}{ev:Operand->Value}{w:World}{a b:Operand}{x y:Value}(hop:o.op=.build 134 #[(0,a),(1,b)])(ha:ev a=x)(hb:ev b=y)(hx:∃i,x=.int .i64 i:=by exact⟨_,rfl⟩)(hy:∃i,y=.int .i64 i:=by exact⟨_,rfl⟩):
  (execOp ev o).run Tryz.prog w=.ok (.value (.agg #[x,y])) w/\(execOp ev o).events Tryz.prog w #[]= #[]:=by
 obtain⟨i,rfl⟩:=hx;obtain⟨j,rfl⟩:=hy;constructor <;>simp[execOp,hop,ha,hb,go_sem]
theorem cf{w:World}{B i:Nat}{xs:Array Value}{e:TypeId}(h:Holds w B xs e)(v:Value):w.setCell ⟨B,i,none⟩ v= { w with heap:=w.heap.setIfInBounds B (.cells (xs.setIfInBounds i v) e) } :=by
 unfold World.setCell;congr 1;apply adT;intro c;rw[acD,ac3];by_cases hc:B=c
 ·subst hc;rw[aay rfl,aay rfl,aay (aah.1 h).1,show w.heap[B]?=some (.cells xs e (0,0)) from h];rfl
 simp_all
theorem ib{w:World}{B i:Nat}{xs:Array Value}{e:TypeId}(h:Holds w B xs e):w.frozen? ⟨B,i,none⟩=false:=by
 unfold World.frozen?;rw[show w.heap[(⟨B,i,none⟩:Addr).block]?=some (.cells xs e (0,0)) from h];simp
end Go.Proofs.YtjagmhagphbfcaaGreatDoor
