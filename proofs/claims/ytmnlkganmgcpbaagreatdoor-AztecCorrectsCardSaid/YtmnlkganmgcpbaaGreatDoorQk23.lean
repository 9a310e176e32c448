import Derived.Test.YtmnlkganmgcpbaaGreatDoorQk20
set_option maxRecDepth 100000
set_option maxHeartbeats 4000000
set_option linter.unusedVariables false
set_option linter.unusedSectionVars false
set_option linter.unusedSimpArgs false
namespace Go.Proofs.YtmnlkganmgcpbaaGreatDoor
section
open Go.RowKit
theorem Cc {g:Array Oper} {S:World->Prop} {K:Act->World->Prop} {r:List (Bool×Nat×Oper)} {k:Nat} {c:Oper} {a:Act} {W:World} {base:Nat} {v:Value} {n:Nat} {xs ys:List Bool} {B:Option Addr} {m i:Nat} (l:W.ownsRow base 4 1 v n (xs.map vB)) (hb:base<=W.heap.size)
 (z:Region.wanted c (yielded g a.tmps)=true) (s y:Operand) (o:c.op= .call {callee:= .builtin .append,args:=#[s,y],argTypes:=#[26,26]}) (hs:a.eval s=v) (p:a.eval y= .slice B m i) (q:m=ys.length) (t:RG vB false W B ys) (hl:n+m<=100000000)
 (u:∀e b,b.ownsRow base 4 1 e (n+m) ((xs++ys).map vB)->W.grownBy b v.ownBlock->S b/\bn Tryz.prog g S K r (a.put c.dst e) b):
 bn Tryz.prog g S K ((true,k,c)::r) a W:=by
 obtain⟨w,x,A,C,D⟩:=info_parts gZ;obtain⟨e,b,E,F,hg⟩:=Bk (P:=Tryz.prog) (f:=vB) (d:=false) wh W base 26 c.type 4 w _ 1 Tryz.underlying26 x A C D rfl v n xs l B m i ys q t oM oO hb;have j:=u e b F hg;refine fD z ?_ j.1 j.2;unfold execOp;simp only[o,resolve,invoke,builtin,Sem.run_bind,Sem.run_pure,Result.andThen_ok,List.map_toArray,List.map_cons,List.map_nil,hs,p,E]
end
end Go.Proofs.YtmnlkganmgcpbaaGreatDoor
