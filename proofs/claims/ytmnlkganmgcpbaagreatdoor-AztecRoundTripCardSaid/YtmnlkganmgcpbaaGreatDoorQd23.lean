import Derived.Test.YtmnlkganmgcpbaaGreatDoorQd22
set_option maxRecDepth 100000
set_option maxHeartbeats 4000000
set_option linter.unusedVariables false
set_option linter.unusedSectionVars false
set_option linter.unusedSimpArgs false
namespace Go.Proofs.YtmnlkganmgcpbaaGreatDoor
section
open Go.RowKit
def Fg (w:World) (v:Value) (t:List Bool) (b:Option (Nat×Bool)):Prop:=match b with
 |none=>v= .agg bc
 |some p=>∃A N a,N=ai p.1 p.2* ai p.1 p.2/\v= .agg #[.int .i64 (p.1:Int),.bool p.2,.int .i64 ((aJ t (aq p.1)).length:Int),.int .i64 ((ai p.1 p.2:Nat):Int),.int .i64 ((ai p.1 p.2:Nat):Int),.slice A N a]/\SR vB false w A N a (eo p.1 p.2 (aJ t (aq p.1)))
def nK (w:World) (l:List UInt8) (r:Option (Nat×Bool)×Int) (e:Ending) (w':World):Prop:=∃v,e= .returned (.tuple #[v,.int .i64 r.2])/\Fg w' v (bF l) r.1/\Below w.heap.size w w'
def EA (p:Nat×Bool):Prop:=1<=p.1/\p.1<=32/\(p.2=true->p.1<=4)
theorem DB (c:Bool):∀p∈qC c,EA p:=by
 intro p a;unfold qC at a;rw[List.mem_append]at a;rcases a with a|a
 ·obtain⟨i,b,rfl⟩:=List.mem_map.1 a;rw[List.mem_range]at b;exact⟨by show 1<=i+1;omega,by show i+1<=32;omega,λ_=>by show i+1<=4;omega⟩
 ·cases c with
  |true=>rw[if_pos rfl]at a;cases a
  |false=>
   rw[if_neg oD]at a;obtain⟨i,b,rfl⟩:=List.mem_map.1 a;rw[List.mem_range]at b;exact⟨by show 1<=i+4;omega,by show i+4<=32;omega,λh=>by cases h⟩
theorem Js (c:Bool):(qC c).length<=33:=by cases c<;>decide
theorem uZ {t:List Bool} (h:t.length<=1048576) (L:Nat):gY t ((aq L:Nat):Int)=(aJ t (aq L),0):=by
 have a:=fu L;unfold gY;rw[if_neg oO,if_neg oO];rfl
theorem yr {α:Type} (f:α->Bool) (l:List α) (d:α) (j:Nat) (b:j<l.length) (h:(l.take j).find? f=none):(f (l.getD j d)=true->l.find? f=some (l.getD j d))/\(f (l.getD j d)=false->(l.take (j+1)).find? f=none):=by
 have e:l=l.take j++l.drop j:=(List.take_append_drop j l).symm;have e2:l.drop j=l.getD j d::l.drop (j+1):=by
  rw[List.drop_eq_getElem_cons b];simp[List.getD,b]
 constructor
 ·intro a;rw[e,List.find?_append,h,e2];have e3:(l.take j++l.getD j d::l.drop (j+1)).getD j d=l.getD j d:=by rw[<-e2,<-e]
  rw[e3,List.find?_cons,a];rfl
 ·intro a;rw[List.take_add_one,List.find?_append,h];simp only[List.getD]at a;rw[List.getElem?_eq_getElem b]at a⊢;simp only[Option.getD_some]at a;simp[a]
theorem G4 (A:Option Addr) (n i:Nat) (l:List UInt8) (b:Int) (c:Bool) (d:Int) (w:World) (m:4096<n) (x:n<=9223372036854775807):
 Calls Tryz.prog 12 #[.slice A n i,.agg #[.int .i64 b,.bool c,.int .i64 d]] w (nK w l (none,4)):=by
 obtain⟨a,e⟩:∃a,a=(w.alloc (.cells #[.int .i64 b,.bool c,.int .i64 d] 24)).alloc (.cells bc 30):=⟨_,rfl⟩;have p:=Lib.hid e;have q:Hid (Below w.heap.size w a):=by show Below _ _ _;rw[e];exact ah (ax _ _) _
 have g:Hid (aa a w.heap.size #[.int .i64 b,.bool c,.int .i64 d] 24):=by
  show aa _ _ _ _;rw[e];have j:aa (w.alloc (.cells #[.int .i64 b,.bool c,.int .i64 d] 24)) w.heap.size #[.int .i64 b,.bool c,.int .i64 d] 24:=aa.new _ _ _ _ rfl;exact j.below (ax _ _)
 have k:Hid (aa a (w.heap.size+1) bc 30):=by show aa _ _ _ _;rw[e];exact aa.new _ _ _ _ oS
 have r:Hid (w.heap.size<=w.heap.size+1/\w.heap.size+1<a.heap.size/\w.heap.size<=a.heap.size/\a.heap.size=w.heap.size+2):=by show _/\_;rw[e];simp;omega
 have s:Hid (∀W,af a W->W.cell? ⟨w.heap.size,0,none⟩=some (.int .i64 b)/\W.cell? ⟨w.heap.size,1,none⟩=some (.bool c)/\W.cell? ⟨w.heap.size,2,none⟩=some (.int .i64 d)):=λW f=>⟨(g.out.below f).cell 0 _ rfl,(g.out.below f).cell 1 _ rfl,(g.out.below f).cell 2 _ rfl⟩;have t:Hid (∀W,af a W->aa W (w.heap.size+1) bc 30):=λW f=>k.out.below f;have u:Hid (∀W,Below ((((w.alloc (.cells #[.int .i64 b,.bool c,.int .i64 d] 24)).alloc (.cells bc 30)).alloc (bE b c))).heap.size ((((w.alloc (.cells #[.int .i64 b,.bool c,.int .i64 d] 24)).alloc (.cells bc 30)).alloc (bE b c))) W->Below a.heap.size a W):=by show∀W,_->_;rw[<-e];exactλW h=>cP h
 clear e;have o:(4096:Int)<(n:Int):=oO;go_enter Tryz.func12,Tryz.ntmps12;go_wp2;refine bodyPost_ret (v:= .tuple #[.agg bc,.int .i64 4]) (by simp[results,Tryz.results12,go_sem]) rfl ⟨.agg bc,rfl,rfl,?_⟩;exact ah (ax _ _) _
theorem Hc (A:Option Addr) (a:Nat) (l:List UInt8) (b:Int) (c:Bool) (d:Int) (w:World):
 Calls Tryz.prog 12 #[.slice A 0 a,.agg #[.int .i64 b,.bool c,.int .i64 d]] w (nK w l (none,5)):=by
 go_enter Tryz.func12,Tryz.ntmps12;go_wp2;refine bodyPost_ret (v:= .tuple #[.agg bc,.int .i64 5]) (by simp[results,Tryz.results12,go_sem]) rfl ⟨.agg bc,rfl,rfl,?_⟩;exact ah (ax _ _) _
theorem E9 (A:Option Addr) (n x:Nat) (l:List UInt8) (c:Int) (f:Bool) (i:Int) (w:World) (Q:n<=4096) (S:1<=n) (T:¬c=0) (s:dN c f=false) (Y:n<=9223372036854775807):
 Calls Tryz.prog 12 #[.slice A n x,.agg #[.int .i64 c,.bool f,.int .i64 i]] w (nK w l (none,14)):=by
 obtain⟨b,j⟩:∃b,b=(w.alloc (.cells #[.int .i64 c,.bool f,.int .i64 i] 24)).alloc (.cells bc 30):=⟨_,rfl⟩;have L:=Lib.hid j;have M:Hid (Below w.heap.size w b):=by show Below _ _ _;rw[j];exact ah (ax _ _) _
 have r:Hid (aa b w.heap.size #[.int .i64 c,.bool f,.int .i64 i] 24):=by
  show aa _ _ _ _;rw[j];have y:aa (w.alloc (.cells #[.int .i64 c,.bool f,.int .i64 i] 24)) w.heap.size #[.int .i64 c,.bool f,.int .i64 i] 24:=aa.new _ _ _ _ rfl;exact y.below (ax _ _)
 have N:Hid (aa b (w.heap.size+1) bc 30):=by show aa _ _ _ _;rw[j];exact aa.new _ _ _ _ oS
 have k:Hid (w.heap.size<=w.heap.size+1/\w.heap.size+1<b.heap.size/\w.heap.size<=b.heap.size/\b.heap.size=w.heap.size+2):=by show _/\_;rw[j];simp;omega
 have t:Hid (∀W,af b W->W.cell? ⟨w.heap.size,0,none⟩=some (.int .i64 c)/\W.cell? ⟨w.heap.size,1,none⟩=some (.bool f)/\W.cell? ⟨w.heap.size,2,none⟩=some (.int .i64 i)):=λW m=>⟨(r.out.below m).cell 0 _ rfl,(r.out.below m).cell 1 _ rfl,(r.out.below m).cell 2 _ rfl⟩;have g:Hid (∀W,af b W->aa W (w.heap.size+1) bc 30):=λW m=>N.out.below m;have O:Hid (∀W,Below ((((w.alloc (.cells #[.int .i64 c,.bool f,.int .i64 i] 24)).alloc (.cells bc 30)).alloc (bE c f))).heap.size ((((w.alloc (.cells #[.int .i64 c,.bool f,.int .i64 i] 24)).alloc (.cells bc 30)).alloc (bE c f))) W->Below b.heap.size b W):=by show∀W,_->_;rw[<-j];exactλW h=>cP h
 clear j;obtain⟨o,p,q⟩:=t.out b (Below.refl _ _);rw[L.out]at o p q;have U:¬(4096:Int)<(n:Int):=oO;have V:((n:Int)==0)=false:=by rw[beq_eq_false_iff_ne];omega
 have X:¬n=0:=oO;have P:Hid (∀W,Calls Tryz.prog 29 #[aP c f] W λe w'=>e= .returned (.bool false)/\Below W.heap.size W w'):=λW=>by rw[<-s];exact eV c f W
 clear s;go_enter Tryz.func12,Tryz.ntmps12;go_wp2_with(go_at_call 29;refine(P.out _).mono ?_;rintro e a ⟨rfl,u⟩;have d:Hid (Below b.heap.size b a):=O.out _ u;clear u o p q;obtain⟨o,p,q⟩:=t.out a d.out;have c0:(a).cell? ⟨w.heap.size+1,0,none⟩=some (.int .i64 0):=(g.out a d.out).cell 0 _ rfl;have c1:(a).cell? ⟨w.heap.size+1,1,none⟩=some (.bool false):=(g.out a d.out).cell 1 _ rfl;have z:(a).cell? ⟨w.heap.size+1,2,none⟩=some (.int .i64 0):=(g.out a d.out).cell 2 _ rfl;have B:(a).cell? ⟨w.heap.size+1,3,none⟩=some (.int .i64 0):=(g.out a d.out).cell 3 _ rfl;have C:(a).cell? ⟨w.heap.size+1,4,none⟩=some (.int .i64 0):=(g.out a d.out).cell 4 _ rfl;have D:(a).cell? ⟨w.heap.size+1,5,none⟩=some (.slice none 0 0):=(g.out a d.out).cell 5 _ rfl;have E:(a).frozen? ⟨w.heap.size+1,0,none⟩=false:=frozen_of_row _ _ _ _ _ ((g.out a d.out));have F:(a).frozen? ⟨w.heap.size+1,1,none⟩=false:=frozen_of_row _ _ _ _ _ ((g.out a d.out));have G:(a).frozen? ⟨w.heap.size+1,2,none⟩=false:=frozen_of_row _ _ _ _ _ ((g.out a d.out));have H:(a).frozen? ⟨w.heap.size+1,3,none⟩=false:=frozen_of_row _ _ _ _ _ ((g.out a d.out));have J:(a).frozen? ⟨w.heap.size+1,4,none⟩=false:=frozen_of_row _ _ _ _ _ ((g.out a d.out));have K:(a).frozen? ⟨w.heap.size+1,5,none⟩=false:=frozen_of_row _ _ _ _ _ ((g.out a d.out)))
 refine bodyPost_ret (v:= .tuple #[.agg bc,.int .i64 14]) (by simp[results,Tryz.results12,go_sem,c0,c1,z,B,C,D,E,F,G,H,J,K]) rfl ⟨.agg bc,rfl,rfl,?_⟩;exact((((((M.out.trans (d.out.mono k.out.2.2.1)).setCell k.out.1 _).setCell k.out.1 _).setCell k.out.1 _).setCell k.out.1 _).setCell k.out.1 _).setCell k.out.1 _
theorem Fa (A:Option Addr) (n x:Nat) (l:List UInt8) (c:Int) (f:Bool) (i:Int) (w:World) (Q:n<=4096) (S:1<=n) (T:¬c=0) (s:dN c f=true) (U:i<5) (Z:n<=9223372036854775807):
 Calls Tryz.prog 12 #[.slice A n x,.agg #[.int .i64 c,.bool f,.int .i64 i]] w (nK w l (none,3)):=by
 obtain⟨b,j⟩:∃b,b=(w.alloc (.cells #[.int .i64 c,.bool f,.int .i64 i] 24)).alloc (.cells bc 30):=⟨_,rfl⟩;have L:=Lib.hid j;have M:Hid (Below w.heap.size w b):=by show Below _ _ _;rw[j];exact ah (ax _ _) _
 have r:Hid (aa b w.heap.size #[.int .i64 c,.bool f,.int .i64 i] 24):=by
  show aa _ _ _ _;rw[j];have y:aa (w.alloc (.cells #[.int .i64 c,.bool f,.int .i64 i] 24)) w.heap.size #[.int .i64 c,.bool f,.int .i64 i] 24:=aa.new _ _ _ _ rfl;exact y.below (ax _ _)
 have N:Hid (aa b (w.heap.size+1) bc 30):=by show aa _ _ _ _;rw[j];exact aa.new _ _ _ _ oS
 have k:Hid (w.heap.size<=w.heap.size+1/\w.heap.size+1<b.heap.size/\w.heap.size<=b.heap.size/\b.heap.size=w.heap.size+2):=by show _/\_;rw[j];simp;omega
 have t:Hid (∀W,af b W->W.cell? ⟨w.heap.size,0,none⟩=some (.int .i64 c)/\W.cell? ⟨w.heap.size,1,none⟩=some (.bool f)/\W.cell? ⟨w.heap.size,2,none⟩=some (.int .i64 i)):=λW m=>⟨(r.out.below m).cell 0 _ rfl,(r.out.below m).cell 1 _ rfl,(r.out.below m).cell 2 _ rfl⟩;have g:Hid (∀W,af b W->aa W (w.heap.size+1) bc 30):=λW m=>N.out.below m;have O:Hid (∀W,Below ((((w.alloc (.cells #[.int .i64 c,.bool f,.int .i64 i] 24)).alloc (.cells bc 30)).alloc (bE c f))).heap.size ((((w.alloc (.cells #[.int .i64 c,.bool f,.int .i64 i] 24)).alloc (.cells bc 30)).alloc (bE c f))) W->Below b.heap.size b W):=by show∀W,_->_;rw[<-j];exactλW h=>cP h
 clear j;obtain⟨o,p,q⟩:=t.out b (Below.refl _ _);rw[L.out]at o p q;have V:¬(4096:Int)<(n:Int):=oO;have X:((n:Int)==0)=false:=by rw[beq_eq_false_iff_ne];omega
 have Y:¬n=0:=oO;have P:Hid (∀W,Calls Tryz.prog 29 #[aP c f] W λe w'=>e= .returned (.bool true)/\Below W.heap.size W w'):=λW=>by rw[<-s];exact eV c f W
 clear s;go_enter Tryz.func12,Tryz.ntmps12;go_wp2_with(go_at_call 29;refine(P.out _).mono ?_;rintro e a ⟨rfl,u⟩;have d:Hid (Below b.heap.size b a):=O.out _ u;clear u o p q;obtain⟨o,p,q⟩:=t.out a d.out;have c0:(a).cell? ⟨w.heap.size+1,0,none⟩=some (.int .i64 0):=(g.out a d.out).cell 0 _ rfl;have c1:(a).cell? ⟨w.heap.size+1,1,none⟩=some (.bool false):=(g.out a d.out).cell 1 _ rfl;have z:(a).cell? ⟨w.heap.size+1,2,none⟩=some (.int .i64 0):=(g.out a d.out).cell 2 _ rfl;have B:(a).cell? ⟨w.heap.size+1,3,none⟩=some (.int .i64 0):=(g.out a d.out).cell 3 _ rfl;have C:(a).cell? ⟨w.heap.size+1,4,none⟩=some (.int .i64 0):=(g.out a d.out).cell 4 _ rfl;have D:(a).cell? ⟨w.heap.size+1,5,none⟩=some (.slice none 0 0):=(g.out a d.out).cell 5 _ rfl;have E:(a).frozen? ⟨w.heap.size+1,0,none⟩=false:=frozen_of_row _ _ _ _ _ ((g.out a d.out));have F:(a).frozen? ⟨w.heap.size+1,1,none⟩=false:=frozen_of_row _ _ _ _ _ ((g.out a d.out));have G:(a).frozen? ⟨w.heap.size+1,2,none⟩=false:=frozen_of_row _ _ _ _ _ ((g.out a d.out));have H:(a).frozen? ⟨w.heap.size+1,3,none⟩=false:=frozen_of_row _ _ _ _ _ ((g.out a d.out));have J:(a).frozen? ⟨w.heap.size+1,4,none⟩=false:=frozen_of_row _ _ _ _ _ ((g.out a d.out));have K:(a).frozen? ⟨w.heap.size+1,5,none⟩=false:=frozen_of_row _ _ _ _ _ ((g.out a d.out)))
 refine bodyPost_ret (v:= .tuple #[.agg bc,.int .i64 3]) (by simp[results,Tryz.results12,go_sem,c0,c1,z,B,C,D,E,F,G,H,J,K]) rfl ⟨.agg bc,rfl,rfl,?_⟩;exact((((((M.out.trans (d.out.mono k.out.2.2.1)).setCell k.out.1 _).setCell k.out.1 _).setCell k.out.1 _).setCell k.out.1 _).setCell k.out.1 _).setCell k.out.1 _
theorem EN (A:Option Addr) (n x:Nat) (l:List UInt8) (c:Int) (f:Bool) (i:Int) (w:World) (Q:n<=4096) (S:1<=n) (T:¬c=0) (s:dN c f=true) (U:¬i<5) (V:90<i) (ab:n<=9223372036854775807):
 Calls Tryz.prog 12 #[.slice A n x,.agg #[.int .i64 c,.bool f,.int .i64 i]] w (nK w l (none,3)):=by
 obtain⟨b,j⟩:∃b,b=(w.alloc (.cells #[.int .i64 c,.bool f,.int .i64 i] 24)).alloc (.cells bc 30):=⟨_,rfl⟩;have L:=Lib.hid j;have M:Hid (Below w.heap.size w b):=by show Below _ _ _;rw[j];exact ah (ax _ _) _
 have r:Hid (aa b w.heap.size #[.int .i64 c,.bool f,.int .i64 i] 24):=by
  show aa _ _ _ _;rw[j];have y:aa (w.alloc (.cells #[.int .i64 c,.bool f,.int .i64 i] 24)) w.heap.size #[.int .i64 c,.bool f,.int .i64 i] 24:=aa.new _ _ _ _ rfl;exact y.below (ax _ _)
 have N:Hid (aa b (w.heap.size+1) bc 30):=by show aa _ _ _ _;rw[j];exact aa.new _ _ _ _ oS
 have k:Hid (w.heap.size<=w.heap.size+1/\w.heap.size+1<b.heap.size/\w.heap.size<=b.heap.size/\b.heap.size=w.heap.size+2):=by show _/\_;rw[j];simp;omega
 have t:Hid (∀W,af b W->W.cell? ⟨w.heap.size,0,none⟩=some (.int .i64 c)/\W.cell? ⟨w.heap.size,1,none⟩=some (.bool f)/\W.cell? ⟨w.heap.size,2,none⟩=some (.int .i64 i)):=λW m=>⟨(r.out.below m).cell 0 _ rfl,(r.out.below m).cell 1 _ rfl,(r.out.below m).cell 2 _ rfl⟩;have g:Hid (∀W,af b W->aa W (w.heap.size+1) bc 30):=λW m=>N.out.below m;have O:Hid (∀W,Below ((((w.alloc (.cells #[.int .i64 c,.bool f,.int .i64 i] 24)).alloc (.cells bc 30)).alloc (bE c f))).heap.size ((((w.alloc (.cells #[.int .i64 c,.bool f,.int .i64 i] 24)).alloc (.cells bc 30)).alloc (bE c f))) W->Below b.heap.size b W):=by show∀W,_->_;rw[<-j];exactλW h=>cP h
 clear j;obtain⟨o,p,q⟩:=t.out b (Below.refl _ _);rw[L.out]at o p q;have X:¬(4096:Int)<(n:Int):=oO;have Y:((n:Int)==0)=false:=by rw[beq_eq_false_iff_ne];omega
 have Z:¬n=0:=oO;have P:Hid (∀W,Calls Tryz.prog 29 #[aP c f] W λe w'=>e= .returned (.bool true)/\Below W.heap.size W w'):=λW=>by rw[<-s];exact eV c f W
 clear s;go_enter Tryz.func12,Tryz.ntmps12;go_wp2_with(go_at_call 29;refine(P.out _).mono ?_;rintro e a ⟨rfl,u⟩;have d:Hid (Below b.heap.size b a):=O.out _ u;clear u o p q;obtain⟨o,p,q⟩:=t.out a d.out;have c0:(a).cell? ⟨w.heap.size+1,0,none⟩=some (.int .i64 0):=(g.out a d.out).cell 0 _ rfl;have c1:(a).cell? ⟨w.heap.size+1,1,none⟩=some (.bool false):=(g.out a d.out).cell 1 _ rfl;have z:(a).cell? ⟨w.heap.size+1,2,none⟩=some (.int .i64 0):=(g.out a d.out).cell 2 _ rfl;have B:(a).cell? ⟨w.heap.size+1,3,none⟩=some (.int .i64 0):=(g.out a d.out).cell 3 _ rfl;have C:(a).cell? ⟨w.heap.size+1,4,none⟩=some (.int .i64 0):=(g.out a d.out).cell 4 _ rfl;have D:(a).cell? ⟨w.heap.size+1,5,none⟩=some (.slice none 0 0):=(g.out a d.out).cell 5 _ rfl;have E:(a).frozen? ⟨w.heap.size+1,0,none⟩=false:=frozen_of_row _ _ _ _ _ ((g.out a d.out));have F:(a).frozen? ⟨w.heap.size+1,1,none⟩=false:=frozen_of_row _ _ _ _ _ ((g.out a d.out));have G:(a).frozen? ⟨w.heap.size+1,2,none⟩=false:=frozen_of_row _ _ _ _ _ ((g.out a d.out));have H:(a).frozen? ⟨w.heap.size+1,3,none⟩=false:=frozen_of_row _ _ _ _ _ ((g.out a d.out));have J:(a).frozen? ⟨w.heap.size+1,4,none⟩=false:=frozen_of_row _ _ _ _ _ ((g.out a d.out));have K:(a).frozen? ⟨w.heap.size+1,5,none⟩=false:=frozen_of_row _ _ _ _ _ ((g.out a d.out)))
 refine bodyPost_ret (v:= .tuple #[.agg bc,.int .i64 3]) (by simp[results,Tryz.results12,go_sem,c0,c1,z,B,C,D,E,F,G,H,J,K]) rfl ⟨.agg bc,rfl,rfl,?_⟩;exact((((((M.out.trans (d.out.mono k.out.2.2.1)).setCell k.out.1 _).setCell k.out.1 _).setCell k.out.1 _).setCell k.out.1 _).setCell k.out.1 _).setCell k.out.1 _
theorem Et (A:Option Addr) (n g:Nat) (l:List UInt8) (b:Bool) (c:Int) (w:World) (r:n<=4096) (s:1<=n) (t:c<5) (E:n<=9223372036854775807):
 Calls Tryz.prog 12 #[.slice A n g,.agg #[.int .i64 0,.bool b,.int .i64 c]] w (nK w l (none,3)):=by
 obtain⟨a,d⟩:∃a,a=(w.alloc (.cells #[.int .i64 0,.bool b,.int .i64 c] 24)).alloc (.cells bc 30):=⟨_,rfl⟩;have o:=Lib.hid d;have z:Hid (Below w.heap.size w a):=by show Below _ _ _;rw[d];exact ah (ax _ _) _
 have f:Hid (aa a w.heap.size #[.int .i64 0,.bool b,.int .i64 c] 24):=by
  show aa _ _ _ _;rw[d];have i:aa (w.alloc (.cells #[.int .i64 0,.bool b,.int .i64 c] 24)) w.heap.size #[.int .i64 0,.bool b,.int .i64 c] 24:=aa.new _ _ _ _ rfl;exact i.below (ax _ _)
 have p:Hid (aa a (w.heap.size+1) bc 30):=by show aa _ _ _ _;rw[d];exact aa.new _ _ _ _ oS
 have B:Hid (w.heap.size<=w.heap.size+1/\w.heap.size+1<a.heap.size/\w.heap.size<=a.heap.size/\a.heap.size=w.heap.size+2):=by show _/\_;rw[d];simp;omega
 have q:Hid (∀W,af a W->W.cell? ⟨w.heap.size,0,none⟩=some (.int .i64 0)/\W.cell? ⟨w.heap.size,1,none⟩=some (.bool b)/\W.cell? ⟨w.heap.size,2,none⟩=some (.int .i64 c)):=λW e=>⟨(f.out.below e).cell 0 _ rfl,(f.out.below e).cell 1 _ rfl,(f.out.below e).cell 2 _ rfl⟩;have C:Hid (∀W,af a W->aa W (w.heap.size+1) bc 30):=λW e=>p.out.below e;have D:Hid (∀W,Below ((((w.alloc (.cells #[.int .i64 0,.bool b,.int .i64 c] 24)).alloc (.cells bc 30)).alloc (bE 0 b))).heap.size ((((w.alloc (.cells #[.int .i64 0,.bool b,.int .i64 c] 24)).alloc (.cells bc 30)).alloc (bE 0 b))) W->Below a.heap.size a W):=by show∀W,_->_;rw[<-d];exactλW h=>cP h
 clear d;obtain⟨j,k,m⟩:=q.out a (Below.refl _ _);rw[o.out]at j k m;have u:¬(4096:Int)<(n:Int):=oO;have x:((n:Int)==0)=false:=by rw[beq_eq_false_iff_ne];omega
 have y:¬n=0:=oO;go_enter Tryz.func12,Tryz.ntmps12;go_wp2;refine bodyPost_ret (v:= .tuple #[.agg bc,.int .i64 3]) (by simp[results,Tryz.results12,go_sem]) rfl ⟨.agg bc,rfl,rfl,?_⟩;exact ah (ah (ax _ _) _) _
theorem E3 (A:Option Addr) (n g:Nat) (l:List UInt8) (b:Bool) (c:Int) (w:World) (r:n<=4096) (s:1<=n) (t:¬c<5) (u:90<c) (F:n<=9223372036854775807):
 Calls Tryz.prog 12 #[.slice A n g,.agg #[.int .i64 0,.bool b,.int .i64 c]] w (nK w l (none,3)):=by
 obtain⟨a,d⟩:∃a,a=(w.alloc (.cells #[.int .i64 0,.bool b,.int .i64 c] 24)).alloc (.cells bc 30):=⟨_,rfl⟩;have o:=Lib.hid d;have B:Hid (Below w.heap.size w a):=by show Below _ _ _;rw[d];exact ah (ax _ _) _
 have f:Hid (aa a w.heap.size #[.int .i64 0,.bool b,.int .i64 c] 24):=by
  show aa _ _ _ _;rw[d];have i:aa (w.alloc (.cells #[.int .i64 0,.bool b,.int .i64 c] 24)) w.heap.size #[.int .i64 0,.bool b,.int .i64 c] 24:=aa.new _ _ _ _ rfl;exact i.below (ax _ _)
 have p:Hid (aa a (w.heap.size+1) bc 30):=by show aa _ _ _ _;rw[d];exact aa.new _ _ _ _ oS
 have C:Hid (w.heap.size<=w.heap.size+1/\w.heap.size+1<a.heap.size/\w.heap.size<=a.heap.size/\a.heap.size=w.heap.size+2):=by show _/\_;rw[d];simp;omega
 have q:Hid (∀W,af a W->W.cell? ⟨w.heap.size,0,none⟩=some (.int .i64 0)/\W.cell? ⟨w.heap.size,1,none⟩=some (.bool b)/\W.cell? ⟨w.heap.size,2,none⟩=some (.int .i64 c)):=λW e=>⟨(f.out.below e).cell 0 _ rfl,(f.out.below e).cell 1 _ rfl,(f.out.below e).cell 2 _ rfl⟩;have D:Hid (∀W,af a W->aa W (w.heap.size+1) bc 30):=λW e=>p.out.below e;have E:Hid (∀W,Below ((((w.alloc (.cells #[.int .i64 0,.bool b,.int .i64 c] 24)).alloc (.cells bc 30)).alloc (bE 0 b))).heap.size ((((w.alloc (.cells #[.int .i64 0,.bool b,.int .i64 c] 24)).alloc (.cells bc 30)).alloc (bE 0 b))) W->Below a.heap.size a W):=by show∀W,_->_;rw[<-d];exactλW h=>cP h
 clear d;obtain⟨j,k,m⟩:=q.out a (Below.refl _ _);rw[o.out]at j k m;have x:¬(4096:Int)<(n:Int):=oO;have y:((n:Int)==0)=false:=by rw[beq_eq_false_iff_ne];omega
 have z:¬n=0:=oO;go_enter Tryz.func12,Tryz.ntmps12;go_wp2;refine bodyPost_ret (v:= .tuple #[.agg bc,.int .i64 3]) (by simp[results,Tryz.results12,go_sem]) rfl ⟨.agg bc,rfl,rfl,?_⟩;exact ah (ah (ax _ _) _) _
theorem vn {l:List UInt8} {C:Nat->Nat->Nat} (hl:l.length<=2078) (d:1<=l.length) (h:cj (bA l) C):1<=(bF l).length:=by
 have hs:(bA l).size<=4096:=by rw[fC];omega
 rw[nZ oO h,rQ hs h];obtain⟨c,-,a,b,-⟩:=h.ua hs 0 0 (by rw[fC];omega) oO;have:=a.size_pos;rw[<-b];unfold aA.bK;omega
theorem pG {t:List Bool} {a L:Nat} {c:Bool} (h:jI t a (L,c)=true) (b:1<=L) (d:L<=32) (e:1<=(aJ t (aq L)).length):(aJ t (aq L)).length<=gj c/\(aJ t (aq L)).length<ay L c:=by
 unfold jI vb at h;simp only[Bool.and_eq_true,decide_eq_true_eq]at h;refine⟨h.1,?_⟩;have f:1<=aq L:=by rcases fu L with h|h|h|h<;>omega
 apply Classical.byContradiction;intro hn;have:aq L* ay L c<=aq L* (aJ t (aq L)).length:=Nat.mul_le_mul_left _ oO;omega
theorem C0 (A:Option Addr) (n a6:Nat) (l:List UInt8) (d:Bool) (a:Nat) (w:World) (hs:SR vU 0 w A n a6 l) (n1:1<=n) (n2:n<=60) (p1:5<=a) (p2:a<=90):
 Calls Tryz.prog 12 #[.slice A n a6,.agg #[.int .i64 0,.bool d,.int .i64 (a:Int)]] w λe w'=>(∃C,cj (bA l) C)/\∀R,(∀p,fO (bF l) a 0 d=some p->R=(some p,0))->(fO (bF l) a 0 d=none->R=(none,16))->nK w l R e w':=by
 obtain⟨f,H⟩:∃f,f=(((w.alloc (.cells #[.int .i64 0,.bool d,.int .i64 (a:Int)] 24)).alloc (.cells bc 30)).alloc (bE 0 d)):=⟨_,rfl⟩;have b9:Hid (Below w.heap.size w f):=by show Below _ _ _;rw[H];exact ah (ah (ax _ _) _) _
 have ew:Hid (aa f w.heap.size #[.int .i64 0,.bool d,.int .i64 (a:Int)] 24):=by
  show aa _ _ _ _;rw[H];have q:aa (w.alloc (.cells #[.int .i64 0,.bool d,.int .i64 (a:Int)] 24)) w.heap.size #[.int .i64 0,.bool d,.int .i64 (a:Int)] 24:=aa.new _ _ _ _ rfl;exact(q.below (ax _ _)).below (ax _ _)
 have ex:Hid (aa f (w.heap.size+1) bc 30):=by
  show aa _ _ _ _;rw[H];have q:aa ((w.alloc (.cells #[.int .i64 0,.bool d,.int .i64 (a:Int)] 24)).alloc (.cells bc 30)) (w.heap.size+1) bc 30:=aa.new _ _ _ _ oS;exact q.below (ax _ _)
 have ey:Hid (aa f (w.heap.size+1+1) #[.int .i64 0,.bool d] 60):=by show aa _ _ _ _;rw[H];exact aa.new _ _ _ _ oS
 have r:Hid (w.heap.size<=w.heap.size+1/\w.heap.size+1<f.heap.size/\w.heap.size<=f.heap.size):=by show _/\_;rw[H];simp;omega
 have X:Hid (∀W,af f W->(W.cell? ⟨w.heap.size,0,none⟩=some (.int .i64 0)/\W.cell? ⟨w.heap.size,1,none⟩=some (.bool d)/\W.cell? ⟨w.heap.size,2,none⟩=some (.int .i64 (a:Int)))/\W.cell? ⟨w.heap.size+1+1,0,none⟩=some (.int .i64 0)/\W.cell? ⟨w.heap.size+1+1,1,none⟩=some (.bool d)):=by
  show∀W,_;intro W Q;have q:=ew.out.below Q;have K:=ey.out.below Q;exact⟨⟨q.cell 0 _ rfl,q.cell 1 _ rfl,q.cell 2 _ rfl⟩,K.cell 0 _ rfl,K.cell 1 _ rfl⟩
 have g:Hid (∀W,af f W->aa W (w.heap.size+1) bc 30):=λW Q=>ex.out.below Q;have ez:Hid (∀W,Below (((w.alloc (.cells #[.int .i64 0,.bool d,.int .i64 (a:Int)] 24)).alloc (.cells bc 30)).alloc (bE 0 d)).heap.size (((w.alloc (.cells #[.int .i64 0,.bool d,.int .i64 (a:Int)] 24)).alloc (.cells bc 30)).alloc (bE 0 d)) W->Below f.heap.size f W):=by show∀W,_->_;rw[<-H];exactλW h=>h
 have c6:=Lib.hid H;have ge:Hid (n=l.length):=hs.hn;have eA:Hid (∀W,af w W->Calls Tryz.prog 30 #[.slice A n a6] W λe w'=>(∃C,cj (bA l) C)/\RT vB false W (bF l,0) e w'):=by
  show∀W,_->_;intro W Q;refine(xj A n a6 l W (hs.below Q) oO).mono ?_;rintro e w' ⟨C,F,ea⟩;refine⟨⟨C,F⟩,?_⟩;rw[nZ (by rw[<-hs.hn];omega) F];exact ea
 have e0:Hid ((∃C,cj (bA l) C)->(bF l).length<=501/\1<=(bF l).length/\∀L,ao (2^aq L) (aJ (bF l) (aq L))/\(aJ (bF l) (aq L)).length<=501/\1<=(aJ (bF l) (aq L)).length):=by
  show _->_;rintro⟨C,F⟩;have q:=qX (l:=l) (by rw[<-hs.hn];omega) F;rw[<-hs.hn]at q;have K:=vn (by rw[<-hs.hn];omega) (by rw[<-hs.hn];exact n1) F;refine⟨by omega,K,λL=>?_⟩;obtain⟨s,gg,ec,gi⟩:=kG (l:=l) (by rw[<-hs.hn];omega) F L rfl;refine⟨s,by omega,?_⟩;rcases Nat.eq_zero_or_pos (aJ (bF l) (aq L)).length with ad|ad
  ·rw[ad]at ec;omega
  ·exact ad
 have go:¬(4096:Int)<(n:Int):=oO;have gp:((n:Int)==0)=false:=by rw[beq_eq_false_iff_ne];omega
 have gq:¬n=0:=oO;have gs:¬(a:Int)<5:=oO;have gt:¬(90:Int)<(a:Int):=oO;have gv:decide (a<5)=false:=by simp;omega
 have gw:decide (90<a)=false:=by simp;omega
 have g4:n<=4096:=oO;obtain⟨o,a5⟩:∃o,o=qC d:=⟨_,rfl⟩;have c7:Hid (∀t,fO t a 0 d=o.find? (jI t a)):=by show∀t,_;intro t;unfold fO xo;rw[a5];rfl
 have e9:Hid (∀p∈o,EA p):=by
  show∀p∈_,_;rw[a5];exact DB d
 have fb:Hid (o.length<=33):=by show _<=_;rw[a5];exact Js d
 have c8:=Lib.hid a5;obtain⟨⟨y,B,D⟩,E,s⟩:=X.out f (Below.refl _ _);rw[c6.out]at y B D E s;have gx:=Lib.hid hs;clear hs a5 n1 H;have fc:Hid (af w (((w.alloc (.cells #[.int .i64 0,.bool d,.int .i64 (a:Int)] 24)).alloc (.cells bc 30)).alloc (bE 0 d))):=by show Below _ _ _;rw[<-c6.out];exact b9.out
 have fd:Hid (∀W,Calls Tryz.prog 31 #[.bool d] W λe w'=>∃bi G cx,e= .returned (.slice bi G cx)/\Hid (o.length=G)/\Hid (MC w' bi o)/\Below W.heap.size W w'):=λW=>by
  refine(CY d W).mono ?_;rintro e w' ⟨v,rfl,⟨ed,x,rfl,-,-,h⟩,hb⟩;rw[<-c8.out]at h;exact⟨ed,o.length,x,by rw[c8.out],rfl,h,hb⟩
 go_enter Tryz.func12,Tryz.ntmps12
 go_wp2_with(first
  |(go_at_call 30;refine(eA.out _ fc.out).mono ?_;rintro e ef ⟨F,gy,rfl,c9,J⟩;obtain⟨gz,a7,gC,rfl,fn⟩:=c9.parts;have HC:=Lib.hid (e0.out F);have da:=Lib.hid F;have fo:=Lib.hid fn;have ca:Hid (Below f.heap.size f ef):=ez.out _ J;clear F c9 J y B D E s;obtain⟨⟨y,B,D⟩,E,s⟩:=X.out _ ca.out;obtain⟨⟨eh,ei,ek⟩,-,-⟩:=X.out _ (ah ca.out (.cells #[.int .i64 0,.bool d] 60)))
  |(go_at_call 31;refine(fd.out _).mono ?_;rintro e c2 ⟨bi,G,cx,rfl,cb,fr,Y⟩;have dd:Hid (Below f.heap.size f c2):=ae (ah ca.out _) Y;have a8:=Lib.hid (fo.out.below (ae (ax _ _) Y));clear Y y B D E s eh ei ek))
 have g3:G<=33:=by have:=fb.out;rw[cb.out]at this;exact this
 have de:Hid (∀t,(o.take 0).find? (jI t a)=none):=λt=>rfl;obtain⟨d7,fv,dn⟩:=HC.out;have ds:=Lib.hid dn;have a9:Hid (a7=(bF l).length):=a8.out.hn;have gD:a7<=501:=by rw[a9.out];exact d7
 clear dn fv d7;obtain⟨t,bb⟩:∃t,Hid (bF l=t):=⟨_,rfl⟩;rw[bb.out]at a8 a9 ds;go_loopw [64] (λbo wr=>∃j:Nat,j<=G/\bo= .int .i64 j/\Hid ((o.take j).find? (jI t a)=none)/\Hid (af c2 wr)) (λbo _=>G-(intOf bo).toNat)
 case atStart=>exact⟨0,Nat.zero_le _,rfl,de.out t,Below.refl _ _⟩
 case round=>
  clear de;obtain⟨j,el,rfl,dv,hB⟩:=hrel;by_cases dx:j<G
  ·have bf:j<o.length:=by rw[cb.out];exact dx
   obtain⟨T,U,rfl,dy,dz⟩:=fr.out oO;have ce:=dz j bf;have dE:o.getD j (0,false)∈o:=by
    simp only[List.getD,List.getElem?_eq_getElem bf,Option.getD_some];exact List.getElem_mem bf
   have fx:=e9.out _ dE;have d0:=Lib.hid (yr (jI t a) o (0,false) j bf dv.out);have e1:wr.cell? ⟨T,U+j* 2,none⟩=some (.int .i64 ((o.getD j (0,false)).1:Int)):=(hB.out.cell (p:=⟨T,U+j* 2,none⟩) dy).trans ce.1;have e2:wr.cell? ⟨T,U+j* 2+1,none⟩=some (.bool (o.getD j (0,false)).2):=(hB.out.cell (p:=⟨T,U+j* 2+1,none⟩) dy).trans ce.2;generalize o.getD j (0,false)=p at*;obtain⟨L,c⟩:=p;obtain⟨al,M,c3⟩:=fx;have al:1<=L:=al;have M:L<=32:=M;have e1:wr.cell? ⟨T,U+j* 2,none⟩=some (.int .i64 (L:Int)):=e1;have e2:wr.cell? ⟨T,U+j* 2+1,none⟩=some (.bool c):=e2;have fz:Hid (c=true->L<=4):=c3;clear c3 ce dz dE;have ch:=eP wr L c;have i:Hid (Below f.heap.size f wr):=ae dd.out hB.out;have d1:Hid (∀W,Calls Tryz.prog 33 #[aP L c] W λe w'=>e= .returned (.int .i64 ((aq L:Nat):Int))/\Below W.heap.size W w'):=λW=>lf L c W M;have d8:Hid (∀W A m x,SR vB false W A m x t->Calls Tryz.prog 32 #[.slice A m x,.int .i64 ((aq L:Nat):Int)] W (RT vN 0 W (aJ t (aq L),0))):=by
    show∀W A m x,_->_;intro W A m x bq;have h:=yW A m x ((aq L:Nat):Int) t W bq;rw[uZ (by rw[<-a9.out];omega)]at h;exact h
   obtain⟨d2,f0,ci⟩:=ds.out L;have bd:Hid (∀W,Calls Tryz.prog 34 #[aP L c,.int .i64 ((aJ t (aq L)).length:Int),.int .i64 (a7:Int),.int .i64 (a:Int)] W λe w'=>e= .returned (.bool (jI t a (L,c)))/\Below W.heap.size W w'):=λW=>by
    have h:=AN L c (aJ t (aq L)).length a7 a W M oO oO oO;rw[a9.out]at h⊢;exact h
   have ck:Hid (jI t a (L,c)=true->(aJ t (aq L)).length<=gj c/\(aJ t (aq L)).length<ay L c):=by
    show _->_;intro h;exact pG h al M ci
   have cq:Hid (jI t a (L,c)=true->∀W A m x,SR vN 0 W A m x (aJ t (aq L))->Calls Tryz.prog 35 #[aP L c,.slice A m x] W λe w'=>∃db N,N=ai L c* ai L c/\e= .returned (.tuple #[pw L c m (ai L c) db N,.int .i64 0])/\bu w' db (eo L c (aJ t (aq L)))/\W.heap.size<=db/\Below W.heap.size W w'):=λh W A m x bq=>
    xw L c _ A m x W al M fz.out d2 ci (ck.out h).1 (ck.out h).2 bq
   have f1:(ai L c)* (ai L c)<=161* 161:=by have:=(ld L c al M).2;exact Nat.mul_le_mul this this
   have gb:Hid ((eo L c (aJ t (aq L))).length=ai L c* ai L c):=kH _ _ _ _;have cs:Hid (∀(R:Option (Nat×Bool)×Int) (W:World) (db N k:Nat),(∀p,fO t a 0 d=some p->R=(some p,0))->jI t a (L,c)=true->N=ai L c* ai L c->k=(aJ t (aq L)).length->bu W db (eo L c (aJ t (aq L)))->R=(some (L,c),0)/\Fg W (pw L c k (ai L c) db N) t (some (L,c))):=by
    show∀(R:Option (Nat×Bool)×Int) (W:World) (db N k:Nat),_->_->_->_->_->_;intro R W db N k q K bs em ad;refine⟨q _ (by rw[c7.out];exact d0.out.1 K),⟨some ⟨db,0,none⟩,N,N,bs,by rw[em],?_⟩⟩;exact ad.sr (by rw[bs,gb.out]) (by rw[bs];unfold maxLen;omega)
   clear d2 f0 ci;generalize ai L c=S at*;generalize eo L c (aJ t (aq L))=dl at*;generalize f2:aJ t (aq L)=c4 at*;generalize aq L=z at*;clear f2 f1;have f3:Hid (∀(W:World) (db:Nat),af (wr.alloc (bE L c)) W->W.heap.size<=db->w.heap.size+1<db):=by
    show∀(W:World) (db:Nat),_->_->_;intro W db q K;have en:=q.size;have gN:=i.out.size;have g0:=r.out.2.1;simp at en;omega
   obtain⟨⟨y,B,D⟩,E,s⟩:=X.out wr i.out;cases hb:jI t a (L,c)with
   |true=>
    rw[hb]at bd;have gc:=Lib.hid (cq.out hb);have d9:=Lib.hid (λR W db N k q=>cs.out R W db N k q hb);clear cq cs hb
    go_wp2_with(first
     |(go_at_call 33;refine(d1.out _).mono ?_;rintro e bt ⟨rfl,a0⟩;have a1:Hid (af (wr.alloc (bE L c)) bt):=a0;have co:=Lib.hid ((a8.out.below hB.out).below (cP a1.out));clear a0 y B D E s e1 e2)
     |(go_at_call 32;refine(d8.out _ _ _ _ co.out).mono ?_;rintro e am ⟨eq,rfl,a2,J⟩;obtain⟨er,V,es,rfl,Z⟩:=a2.parts;have f4:=Lib.hid Z;have O:Hid (af (wr.alloc (bE L c)) am):=ae a1.out J;have P:Hid (V=c4.length):=Z.hn;have cv:Hid (Below f.heap.size f am):=ae i.out (cP O.out);clear a2 J Z;obtain⟨ap,av⟩:=ch.out _ O.out;obtain⟨⟨y,B,D⟩,E,s⟩:=X.out _ cv.out)
     |(go_at_call 34;rw[P.out];refine(bd.out _).mono ?_;rw[<-P.out];rintro e bv ⟨rfl,ab⟩;have a3:Hid (af (wr.alloc (bE L c)) bv):=ae O.out ab;have f5:=Lib.hid (f4.out.below ab);clear ab ap av y B D E s;obtain⟨ap,av⟩:=ch.out _ a3.out)
     |(go_at_call 35;refine(gc.out _ _ _ _ f5.out).mono ?_;rintro e b ⟨db,N,c5,rfl,d3,d4,Y⟩;have f6:Hid (af (wr.alloc (bE L c)) b):=ae a3.out Y;have d5:=Lib.hid d3;have d6:=Lib.hid c5;have f7:=Lib.hid (f3.out _ _ a3.out d4);clear d3 d4 Y c5 ap av;have u:Hid (Below f.heap.size f b):=ae i.out (cP f6.out);have c0:(b).cell? ⟨w.heap.size+1,0,none⟩=some (.int .i64 0):=(g.out b u.out).cell 0 _ rfl;have c1:(b).cell? ⟨w.heap.size+1,1,none⟩=some (.bool false):=(g.out b u.out).cell 1 _ rfl;have bx:(b).cell? ⟨w.heap.size+1,2,none⟩=some (.int .i64 0):=(g.out b u.out).cell 2 _ rfl;have bz:(b).cell? ⟨w.heap.size+1,3,none⟩=some (.int .i64 0):=(g.out b u.out).cell 3 _ rfl;have b1:(b).cell? ⟨w.heap.size+1,4,none⟩=some (.int .i64 0):=(g.out b u.out).cell 4 _ rfl;have b2:(b).cell? ⟨w.heap.size+1,5,none⟩=some (.slice none 0 0):=(g.out b u.out).cell 5 _ rfl;have b3:(b).frozen? ⟨w.heap.size+1,0,none⟩=false:=frozen_of_row _ _ _ _ _ ((g.out b u.out));have b4:(b).frozen? ⟨w.heap.size+1,1,none⟩=false:=frozen_of_row _ _ _ _ _ ((g.out b u.out));have b5:(b).frozen? ⟨w.heap.size+1,2,none⟩=false:=frozen_of_row _ _ _ _ _ ((g.out b u.out));have b6:(b).frozen? ⟨w.heap.size+1,3,none⟩=false:=frozen_of_row _ _ _ _ _ ((g.out b u.out));have b7:(b).frozen? ⟨w.heap.size+1,4,none⟩=false:=frozen_of_row _ _ _ _ _ ((g.out b u.out));have b8:(b).frozen? ⟨w.heap.size+1,5,none⟩=false:=frozen_of_row _ _ _ _ _ ((g.out b u.out))))
    refine bodyPost_ret (v:= .tuple #[pw L c V S db N,.int .i64 0]) (by simp[results,Tryz.results12,go_sem,c0,c1,bx,bz,b1,b2,b3,b4,b5,b6,b7,b8]) rfl ⟨da.out,λR a4 be=>?_⟩;have ac:db≠w.heap.size+1:=by have:=f7.out;omega
    rw[bb.out]at a4 be;obtain rfl:=(d9.out R b db N V a4 d6.out P.out d5.out).1;refine⟨_,rfl,?_,?_⟩
    ·rw[bb.out];refine(d9.out _ _ db N V a4 d6.out P.out ?_).2;exact aa.cg (aa.cg (aa.cg (aa.cg (aa.cg (aa.cg d5.out _ _ ac) _ _ ac) _ _ ac) _ _ ac) _ _ ac) _ _ ac
    ·have cp:Hid (Below w.heap.size w b):=b9.out.trans (u.out.mono r.out.2.2);exact((((((cp.out).setCell r.out.1 _).setCell r.out.1 _).setCell r.out.1 _).setCell r.out.1 _).setCell r.out.1 _).setCell r.out.1 _
   |false=>
    rw[hb]at bd;have f8:=Lib.hid (d0.out.2 hb);clear cq cs hb ck
    go_wp2_with(first
     |(go_at_call 33;refine(d1.out _).mono ?_;rintro e bt ⟨rfl,a0⟩;have a1:Hid (af (wr.alloc (bE L c)) bt):=a0;have co:=Lib.hid ((a8.out.below hB.out).below (cP a1.out));clear a0 y B D E s e1 e2)
     |(go_at_call 32;refine(d8.out _ _ _ _ co.out).mono ?_;rintro e am ⟨eq,rfl,a2,J⟩;obtain⟨er,V,es,rfl,Z⟩:=a2.parts;have O:Hid (af (wr.alloc (bE L c)) am):=ae a1.out J;have P:Hid (V=c4.length):=Z.hn;have cv:Hid (Below f.heap.size f am):=ae i.out (cP O.out);clear a2 J Z;obtain⟨ap,av⟩:=ch.out _ O.out;obtain⟨⟨y,B,D⟩,E,s⟩:=X.out _ cv.out)
     |(go_at_call 34;rw[P.out];refine(bd.out _).mono ?_;rw[<-P.out];rintro e bv ⟨rfl,ab⟩;have a3:Hid (af (wr.alloc (bE L c)) bv):=ae O.out ab;clear ab ap av y B D E s))
    exact⟨⟨j+1,by omega,by go_num,f8.out,ae hB.out (cP a3.out)⟩,by simp[intOf];omega⟩
  ·have et:Hid (j=G):=by show _=_;omega
   have g1:decide (j<G)=false:=by simp;omega
   have f9:Hid (fO t a 0 d=none):=by show _=_;rw[c7.out];have:=dv.out;rw[et.out,<-cb.out,List.take_length]at this;exact this
   have g2:¬j<G:=oO;have i:Hid (Below f.heap.size f wr):=ae dd.out hB.out;clear dx el;have c0:(wr).cell? ⟨w.heap.size+1,0,none⟩=some (.int .i64 0):=(g.out wr i.out).cell 0 _ rfl;have c1:(wr).cell? ⟨w.heap.size+1,1,none⟩=some (.bool false):=(g.out wr i.out).cell 1 _ rfl;have bx:(wr).cell? ⟨w.heap.size+1,2,none⟩=some (.int .i64 0):=(g.out wr i.out).cell 2 _ rfl;have bz:(wr).cell? ⟨w.heap.size+1,3,none⟩=some (.int .i64 0):=(g.out wr i.out).cell 3 _ rfl;have b1:(wr).cell? ⟨w.heap.size+1,4,none⟩=some (.int .i64 0):=(g.out wr i.out).cell 4 _ rfl;have b2:(wr).cell? ⟨w.heap.size+1,5,none⟩=some (.slice none 0 0):=(g.out wr i.out).cell 5 _ rfl;have b3:(wr).frozen? ⟨w.heap.size+1,0,none⟩=false:=frozen_of_row _ _ _ _ _ ((g.out wr i.out));have b4:(wr).frozen? ⟨w.heap.size+1,1,none⟩=false:=frozen_of_row _ _ _ _ _ ((g.out wr i.out));have b5:(wr).frozen? ⟨w.heap.size+1,2,none⟩=false:=frozen_of_row _ _ _ _ _ ((g.out wr i.out));have b6:(wr).frozen? ⟨w.heap.size+1,3,none⟩=false:=frozen_of_row _ _ _ _ _ ((g.out wr i.out));have b7:(wr).frozen? ⟨w.heap.size+1,4,none⟩=false:=frozen_of_row _ _ _ _ _ ((g.out wr i.out));have b8:(wr).frozen? ⟨w.heap.size+1,5,none⟩=false:=frozen_of_row _ _ _ _ _ ((g.out wr i.out));go_wp2;refine bodyPost_ret (v:= .tuple #[.agg bc,.int .i64 16]) (by simp[results,Tryz.results12,go_sem,c0,c1,bx,bz,b1,b2,b3,b4,b5,b6,b7,b8]) rfl ⟨da.out,λR a4 be=>?_⟩;rw[bb.out]at a4 be;obtain rfl:=be f9.out;refine⟨_,rfl,rfl,?_⟩;have cp:Hid (Below w.heap.size w wr):=b9.out.trans (i.out.mono r.out.2.2);exact((((((cp.out).setCell r.out.1 _).setCell r.out.1 _).setCell r.out.1 _).setCell r.out.1 _).setCell r.out.1 _).setCell r.out.1 _
theorem Bb (A:Option Addr) (n a7:Nat) (l:List UInt8) (d:Bool) (a:Nat) (c5:1<=a) (c6:a<=32) (b8:d=true->a<=4) (b:Nat) (w:World) (hs:SR vU 0 w A n a7 l) (n1:1<=n) (n2:n<=60) (p1:5<=b) (p2:b<=90):
 Calls Tryz.prog 12 #[.slice A n a7,.agg #[.int .i64 (a:Int),.bool d,.int .i64 (b:Int)]] w λe w'=>(∃C,cj (bA l) C)/\∀R,(∀p,fO (bF l) b a d=some p->R=(some p,0))->(fO (bF l) b a d=none->R=(none,16))->nK w l R e w':=by
 obtain⟨f,H⟩:∃f,f=(((w.alloc (.cells #[.int .i64 (a:Int),.bool d,.int .i64 (b:Int)] 24)).alloc (.cells bc 30)).alloc (bE a d)):=⟨_,rfl⟩;have b9:Hid (Below w.heap.size w f):=by show Below _ _ _;rw[H];exact ah (ah (ax _ _) _) _
 have ey:Hid (aa f w.heap.size #[.int .i64 (a:Int),.bool d,.int .i64 (b:Int)] 24):=by
  show aa _ _ _ _;rw[H];have r:aa (w.alloc (.cells #[.int .i64 (a:Int),.bool d,.int .i64 (b:Int)] 24)) w.heap.size #[.int .i64 (a:Int),.bool d,.int .i64 (b:Int)] 24:=aa.new _ _ _ _ rfl;exact(r.below (ax _ _)).below (ax _ _)
 have ez:Hid (aa f (w.heap.size+1) bc 30):=by
  show aa _ _ _ _;rw[H];have r:aa ((w.alloc (.cells #[.int .i64 (a:Int),.bool d,.int .i64 (b:Int)] 24)).alloc (.cells bc 30)) (w.heap.size+1) bc 30:=aa.new _ _ _ _ oS;exact r.below (ax _ _)
 have eA:Hid (aa f (w.heap.size+1+1) #[.int .i64 (a:Int),.bool d] 60):=by show aa _ _ _ _;rw[H];exact aa.new _ _ _ _ oS
 have u:Hid (w.heap.size<=w.heap.size+1/\w.heap.size+1<f.heap.size/\w.heap.size<=f.heap.size):=by show _/\_;rw[H];simp;omega
 have P:Hid (∀W,af f W->(W.cell? ⟨w.heap.size,0,none⟩=some (.int .i64 (a:Int))/\W.cell? ⟨w.heap.size,1,none⟩=some (.bool d)/\W.cell? ⟨w.heap.size,2,none⟩=some (.int .i64 (b:Int)))/\W.cell? ⟨w.heap.size+1+1,0,none⟩=some (.int .i64 (a:Int))/\W.cell? ⟨w.heap.size+1+1,1,none⟩=some (.bool d)):=by
  show∀W,_;intro W U;have r:=ey.out.below U;have M:=eA.out.below U;exact⟨⟨r.cell 0 _ rfl,r.cell 1 _ rfl,r.cell 2 _ rfl⟩,M.cell 0 _ rfl,M.cell 1 _ rfl⟩
 have i:Hid (∀W,af f W->aa W (w.heap.size+1) bc 30):=λW U=>ez.out.below U;have e0:Hid (∀W,Below (((w.alloc (.cells #[.int .i64 (a:Int),.bool d,.int .i64 (b:Int)] 24)).alloc (.cells bc 30)).alloc (bE a d)).heap.size (((w.alloc (.cells #[.int .i64 (a:Int),.bool d,.int .i64 (b:Int)] 24)).alloc (.cells bc 30)).alloc (bE a d)) W->Below f.heap.size f W):=by show∀W,_->_;rw[<-H];exactλW h=>h
 have e9:=Lib.hid H;have go:Hid (n=l.length):=hs.hn;have fb:Hid (∀W,af w W->Calls Tryz.prog 30 #[.slice A n a7] W λe w'=>(∃C,cj (bA l) C)/\RT vB false W (bF l,0) e w'):=by
  show∀W,_->_;intro W U;refine(xj A n a7 l W (hs.below U) oO).mono ?_;rintro e w' ⟨C,G,ed⟩;refine⟨⟨C,G⟩,?_⟩;rw[nZ (by rw[<-hs.hn];omega) G];exact ed
 have fc:Hid ((∃C,cj (bA l) C)->(bF l).length<=501/\1<=(bF l).length/\∀L,ao (2^aq L) (aJ (bF l) (aq L))/\(aJ (bF l) (aq L)).length<=501/\1<=(aJ (bF l) (aq L)).length):=by
  show _->_;rintro⟨C,G⟩;have r:=qX (l:=l) (by rw[<-hs.hn];omega) G;rw[<-hs.hn]at r;have M:=vn (by rw[<-hs.hn];omega) (by rw[<-hs.hn];exact n1) G;refine⟨by omega,M,λL=>?_⟩;obtain⟨s,gp,ef,gq⟩:=kG (l:=l) (by rw[<-hs.hn];omega) G L rfl;refine⟨s,by omega,?_⟩;rcases Nat.eq_zero_or_pos (aJ (bF l) (aq L)).length with al|al
  ·rw[al]at ef;omega
  ·exact al
 have gs:¬(4096:Int)<(n:Int):=oO;have gt:((n:Int)==0)=false:=by rw[beq_eq_false_iff_ne];omega
 have gv:¬n=0:=oO;have gw:¬(b:Int)<5:=oO;have gx:¬(90:Int)<(b:Int):=oO;have gy:decide (b<5)=false:=by simp;omega
 have gz:decide (90<b)=false:=by simp;omega
 have ih:n<=4096:=oO;obtain⟨q,a6⟩:∃q,q=[(a,d)]:=⟨_,rfl⟩;have c7:Hid (∀t,fO t b a d=q.find? (jI t b)):=by show∀t,_;intro t;unfold fO xo;rw[a6];rw[if_neg oO]
 have fd:Hid (∀p∈q,EA p):=by
  show∀p∈_,_;rw[a6];intro p cx;rw[List.mem_singleton]at cx;rw[cx];exact⟨c5,c6,b8⟩
 have g6:Hid (q.length<=33):=by show _<=_;rw[a6];show 1<=33;omega
 have c8:=Lib.hid a6;obtain⟨⟨x,y,B⟩,D,s⟩:=P.out f (Below.refl _ _);rw[e9.out]at x y B D s;have gC:=Lib.hid hs;clear hs a6 n1 H;have g7:((a:Int)==0)=false:=by rw[beq_eq_false_iff_ne];omega
 have ib:¬a=0:=oO;have fn:Hid (∀W,Calls Tryz.prog 29 #[aP a d] W λe w'=>e= .returned (.bool true)/\Below W.heap.size W w'):=λW=>by rw[<-exB_of c5 c6 b8];exact eV a d W
 have fo:Hid (∀W:World,MC (W.alloc (.cells #[.int .i64 (a:Int),.bool d] 60)) (some ⟨W.heap.size,0,none⟩) q):=by
  show∀W:World,_;intro W;obtain⟨gD,F,e,-,-,h⟩:=SY.lit W [(a,d)] 60 W.heap.size 1 rfl rfl oM;injection e with e1 _ _;rw[c8.out,e1];exact h
 clear b8;go_enter Tryz.func12,Tryz.ntmps12
 go_wp2_with(first
  |(go_at_call 29;refine(fn.out _).mono ?_;rintro e eh ⟨rfl,J⟩;have ca:Hid (Below f.heap.size f eh):=e0.out _ J;clear J x y B D s;obtain⟨⟨x,y,B⟩,D,s⟩:=P.out _ ca.out)
  |(go_at_call 30;refine(fb.out _ (ae b9.out ca.out)).mono ?_;rintro e V ⟨G,gN,rfl,c9,K⟩;obtain⟨g0,a8,g1,rfl,fr⟩:=c9.parts;have HC:=Lib.hid (fc.out G);have da:=Lib.hid G;have fv:=Lib.hid fr;have cb:Hid (Below f.heap.size f V):=ae ca.out K;clear G c9 K x y B D s;obtain⟨⟨x,y,B⟩,D,s⟩:=P.out _ cb.out;obtain⟨⟨ei,ek,el⟩,-,-⟩:=P.out _ (ah cb.out (.cells #[.int .i64 (a:Int),.bool d] 60))))
 have fx:=Lib.hid (fo.out V);have dd:Hid (Below f.heap.size f (V.alloc (.cells #[.int .i64 (a:Int),.bool d] 60))):=ah cb.out _;have a9:=Lib.hid (fv.out.below (ax V (.cells #[.int .i64 (a:Int),.bool d] 60)));have de:Hid (q.length=1):=by show _=_;rw[c8.out];rfl
 generalize fz:V.alloc (.cells #[.int .i64 (a:Int),.bool d] 60)=em at*;clear fz x y B D s ei ek el;generalize am:(some ⟨V.heap.size,0,none⟩:Option Addr)=g2 at*;clear am;have dn:Hid (∀t,(q.take 0).find? (jI t b)=none):=λt=>rfl;obtain⟨d9,f0,ds⟩:=HC.out;have dv:=Lib.hid ds;have bb:Hid (a8=(bF l).length):=a9.out.hn;have g3:a8<=501:=by rw[bb.out];exact d9
 clear ds f0 d9;obtain⟨t,bd⟩:∃t,Hid (bF l=t):=⟨_,rfl⟩;rw[bd.out]at a9 bb dv;go_loopw [64] (λbo wr=>∃j:Nat,j<=1/\bo= .int .i64 j/\Hid ((q.take j).find? (jI t b)=none)/\Hid (af em wr)) (λbo _=>1-(intOf bo).toNat)
 case atStart=>exact⟨0,Nat.zero_le _,rfl,dn.out t,Below.refl _ _⟩
 case round=>
  clear dn;obtain⟨j,en,rfl,dx,hB⟩:=hrel;by_cases dy:j<1
  ·have bi:j<q.length:=by rw[de.out];exact dy
   obtain⟨X,Y,rfl,dz,dE⟩:=fx.out oO;have ce:=dE j bi;have d0:q.getD j (0,false)∈q:=by
    simp only[List.getD,List.getElem?_eq_getElem bi,Option.getD_some];exact List.getElem_mem bi
   have f1:=fd.out _ d0;have d1:=Lib.hid (yr (jI t b) q (0,false) j bi dx.out);have e1:wr.cell? ⟨X,Y+j* 2,none⟩=some (.int .i64 ((q.getD j (0,false)).1:Int)):=(hB.out.cell (p:=⟨X,Y+j* 2,none⟩) dz).trans ce.1;have e2:wr.cell? ⟨X,Y+j* 2+1,none⟩=some (.bool (q.getD j (0,false)).2):=(hB.out.cell (p:=⟨X,Y+j* 2+1,none⟩) dz).trans ce.2;generalize q.getD j (0,false)=p at*;obtain⟨L,c⟩:=p;obtain⟨ap,O,c2⟩:=f1;have ap:1<=L:=ap;have O:L<=32:=O;have e1:wr.cell? ⟨X,Y+j* 2,none⟩=some (.int .i64 (L:Int)):=e1;have e2:wr.cell? ⟨X,Y+j* 2+1,none⟩=some (.bool c):=e2;have f2:Hid (c=true->L<=4):=c2;clear c2 ce dE d0;have ch:=eP wr L c;have o:Hid (Below f.heap.size f wr):=ae dd.out hB.out;have d2:Hid (∀W,Calls Tryz.prog 33 #[aP L c] W λe w'=>e= .returned (.int .i64 ((aq L:Nat):Int))/\Below W.heap.size W w'):=λW=>lf L c W O;have ea:Hid (∀W A m F,SR vB false W A m F t->Calls Tryz.prog 32 #[.slice A m F,.int .i64 ((aq L:Nat):Int)] W (RT vN 0 W (aJ t (aq L),0))):=by
    show∀W A m F,_->_;intro W A m F am;have h:=yW A m F ((aq L:Nat):Int) t W am;rw[uZ (by rw[<-bb.out];omega)]at h;exact h
   obtain⟨d3,f3,ci⟩:=dv.out L;have be:Hid (∀W,Calls Tryz.prog 34 #[aP L c,.int .i64 ((aJ t (aq L)).length:Int),.int .i64 (a8:Int),.int .i64 (b:Int)] W λe w'=>e= .returned (.bool (jI t b (L,c)))/\Below W.heap.size W w'):=λW=>by
    have h:=AN L c (aJ t (aq L)).length a8 b W O oO oO oO;rw[bb.out]at h⊢;exact h
   have ck:Hid (jI t b (L,c)=true->(aJ t (aq L)).length<=gj c/\(aJ t (aq L)).length<ay L c):=by
    show _->_;intro h;exact pG h ap O ci
   have cq:Hid (jI t b (L,c)=true->∀W A m F,SR vN 0 W A m F (aJ t (aq L))->Calls Tryz.prog 35 #[aP L c,.slice A m F] W λe w'=>∃db N,N=ai L c* ai L c/\e= .returned (.tuple #[pw L c m (ai L c) db N,.int .i64 0])/\bu w' db (eo L c (aJ t (aq L)))/\W.heap.size<=db/\Below W.heap.size W w'):=λh W A m F am=>
    xw L c _ A m F W ap O f2.out d3 ci (ck.out h).1 (ck.out h).2 am
   have f4:(ai L c)* (ai L c)<=161* 161:=by have:=(ld L c ap O).2;exact Nat.mul_le_mul this this
   have gg:Hid ((eo L c (aJ t (aq L))).length=ai L c* ai L c):=kH _ _ _ _;have cs:Hid (∀(R:Option (Nat×Bool)×Int) (W:World) (db N k:Nat),(∀p,fO t b a d=some p->R=(some p,0))->jI t b (L,c)=true->N=ai L c* ai L c->k=(aJ t (aq L)).length->bu W db (eo L c (aJ t (aq L)))->R=(some (L,c),0)/\Fg W (pw L c k (ai L c) db N) t (some (L,c))):=by
    show∀(R:Option (Nat×Bool)×Int) (W:World) (db N k:Nat),_->_->_->_->_->_;intro R W db N k r M bq eq al;refine⟨r _ (by rw[c7.out];exact d1.out.1 M),⟨some ⟨db,0,none⟩,N,N,bq,by rw[eq],?_⟩⟩;exact al.sr (by rw[bq,gg.out]) (by rw[bq];unfold maxLen;omega)
   clear d3 f3 ci;generalize ai L c=S at*;generalize eo L c (aJ t (aq L))=dl at*;generalize f5:aJ t (aq L)=c3 at*;generalize aq L=z at*;clear f5 f4;have f6:Hid (∀(W:World) (db:Nat),af (wr.alloc (bE L c)) W->W.heap.size<=db->w.heap.size+1<db):=by
    show∀(W:World) (db:Nat),_->_->_;intro W db r M;have er:=r.size;have g4:=o.out.size;have g5:=u.out.2.1;simp at er;omega
   obtain⟨⟨x,y,B⟩,D,s⟩:=P.out wr o.out;cases hb:jI t b (L,c)with
   |true=>
    rw[hb]at be;have gi:=Lib.hid (cq.out hb);have ec:=Lib.hid (λR W db N k r=>cs.out R W db N k r hb);clear cq cs hb
    go_wp2_with(first
     |(go_at_call 33;refine(d2.out _).mono ?_;rintro e bs ⟨rfl,J⟩;have a2:Hid (af (wr.alloc (bE L c)) bs):=J;have co:=Lib.hid ((a9.out.below hB.out).below (cP a2.out));clear J x y B D s e1 e2)
     |(go_at_call 32;refine(ea.out _ _ _ _ co.out).mono ?_;rintro e av ⟨es,rfl,a3,K⟩;obtain⟨et,Z,ew,rfl,ab⟩:=a3.parts;have f7:=Lib.hid ab;have Q:Hid (af (wr.alloc (bE L c)) av):=ae a2.out K;have T:Hid (Z=c3.length):=ab.hn;have cv:Hid (Below f.heap.size f av):=ae o.out (cP Q.out);clear a3 K ab;obtain⟨a0,a1⟩:=ch.out _ Q.out;obtain⟨⟨x,y,B⟩,D,s⟩:=P.out _ cv.out)
     |(go_at_call 34;rw[T.out];refine(be.out _).mono ?_;rw[<-T.out];rintro e bt ⟨rfl,ac⟩;have a4:Hid (af (wr.alloc (bE L c)) bt):=ae Q.out ac;have f8:=Lib.hid (f7.out.below ac);clear ac a0 a1 x y B D s;obtain⟨a0,a1⟩:=ch.out _ a4.out)
     |(go_at_call 35;refine(gi.out _ _ _ _ f8.out).mono ?_;rintro e g ⟨db,N,c4,rfl,d4,d5,d6⟩;have f9:Hid (af (wr.alloc (bE L c)) g):=ae a4.out d6;have d7:=Lib.hid d4;have d8:=Lib.hid c4;have gb:=Lib.hid (f6.out _ _ a4.out d5);clear d4 d5 d6 c4 a0 a1;have E:Hid (Below f.heap.size f g):=ae o.out (cP f9.out);have c0:(g).cell? ⟨w.heap.size+1,0,none⟩=some (.int .i64 0):=(i.out g E.out).cell 0 _ rfl;have c1:(g).cell? ⟨w.heap.size+1,1,none⟩=some (.bool false):=(i.out g E.out).cell 1 _ rfl;have bv:(g).cell? ⟨w.heap.size+1,2,none⟩=some (.int .i64 0):=(i.out g E.out).cell 2 _ rfl;have bx:(g).cell? ⟨w.heap.size+1,3,none⟩=some (.int .i64 0):=(i.out g E.out).cell 3 _ rfl;have bz:(g).cell? ⟨w.heap.size+1,4,none⟩=some (.int .i64 0):=(i.out g E.out).cell 4 _ rfl;have b1:(g).cell? ⟨w.heap.size+1,5,none⟩=some (.slice none 0 0):=(i.out g E.out).cell 5 _ rfl;have b2:(g).frozen? ⟨w.heap.size+1,0,none⟩=false:=frozen_of_row _ _ _ _ _ ((i.out g E.out));have b3:(g).frozen? ⟨w.heap.size+1,1,none⟩=false:=frozen_of_row _ _ _ _ _ ((i.out g E.out));have b4:(g).frozen? ⟨w.heap.size+1,2,none⟩=false:=frozen_of_row _ _ _ _ _ ((i.out g E.out));have b5:(g).frozen? ⟨w.heap.size+1,3,none⟩=false:=frozen_of_row _ _ _ _ _ ((i.out g E.out));have b6:(g).frozen? ⟨w.heap.size+1,4,none⟩=false:=frozen_of_row _ _ _ _ _ ((i.out g E.out));have b7:(g).frozen? ⟨w.heap.size+1,5,none⟩=false:=frozen_of_row _ _ _ _ _ ((i.out g E.out))))
    refine bodyPost_ret (v:= .tuple #[pw L c Z S db N,.int .i64 0]) (by simp[results,Tryz.results12,go_sem,c0,c1,bv,bx,bz,b1,b2,b3,b4,b5,b6,b7]) rfl ⟨da.out,λR a5 bf=>?_⟩;have ad:db≠w.heap.size+1:=by have:=gb.out;omega
    rw[bd.out]at a5 bf;obtain rfl:=(ec.out R g db N Z a5 d8.out T.out d7.out).1;refine⟨_,rfl,?_,?_⟩
    ·rw[bd.out];refine(ec.out _ _ db N Z a5 d8.out T.out ?_).2;exact aa.cg (aa.cg (aa.cg (aa.cg (aa.cg (aa.cg d7.out _ _ ad) _ _ ad) _ _ ad) _ _ ad) _ _ ad) _ _ ad
    ·have cp:Hid (Below w.heap.size w g):=b9.out.trans (E.out.mono u.out.2.2);exact((((((cp.out).setCell u.out.1 _).setCell u.out.1 _).setCell u.out.1 _).setCell u.out.1 _).setCell u.out.1 _).setCell u.out.1 _
   |false=>
    rw[hb]at be;have gc:=Lib.hid (d1.out.2 hb);clear cq cs hb ck
    go_wp2_with(first
     |(go_at_call 33;refine(d2.out _).mono ?_;rintro e bs ⟨rfl,J⟩;have a2:Hid (af (wr.alloc (bE L c)) bs):=J;have co:=Lib.hid ((a9.out.below hB.out).below (cP a2.out));clear J x y B D s e1 e2)
     |(go_at_call 32;refine(ea.out _ _ _ _ co.out).mono ?_;rintro e av ⟨es,rfl,a3,K⟩;obtain⟨et,Z,ew,rfl,ab⟩:=a3.parts;have Q:Hid (af (wr.alloc (bE L c)) av):=ae a2.out K;have T:Hid (Z=c3.length):=ab.hn;have cv:Hid (Below f.heap.size f av):=ae o.out (cP Q.out);clear a3 K ab;obtain⟨a0,a1⟩:=ch.out _ Q.out;obtain⟨⟨x,y,B⟩,D,s⟩:=P.out _ cv.out)
     |(go_at_call 34;rw[T.out];refine(be.out _).mono ?_;rw[<-T.out];rintro e bt ⟨rfl,ac⟩;have a4:Hid (af (wr.alloc (bE L c)) bt):=ae Q.out ac;clear ac a0 a1 x y B D s))
    exact⟨⟨j+1,by omega,by go_num,gc.out,ae hB.out (cP a4.out)⟩,by simp[intOf];omega⟩
  ·have ex:Hid (j=1):=by show _=_;omega
   have g8:decide (j<1)=false:=by simp;omega
   have ge:Hid (fO t b a d=none):=by show _=_;rw[c7.out];have:=dx.out;rw[ex.out,<-de.out,List.take_length]at this;exact this
   have g9:¬j<1:=oO;have o:Hid (Below f.heap.size f wr):=ae dd.out hB.out;clear dy en;have c0:(wr).cell? ⟨w.heap.size+1,0,none⟩=some (.int .i64 0):=(i.out wr o.out).cell 0 _ rfl;have c1:(wr).cell? ⟨w.heap.size+1,1,none⟩=some (.bool false):=(i.out wr o.out).cell 1 _ rfl;have bv:(wr).cell? ⟨w.heap.size+1,2,none⟩=some (.int .i64 0):=(i.out wr o.out).cell 2 _ rfl;have bx:(wr).cell? ⟨w.heap.size+1,3,none⟩=some (.int .i64 0):=(i.out wr o.out).cell 3 _ rfl;have bz:(wr).cell? ⟨w.heap.size+1,4,none⟩=some (.int .i64 0):=(i.out wr o.out).cell 4 _ rfl;have b1:(wr).cell? ⟨w.heap.size+1,5,none⟩=some (.slice none 0 0):=(i.out wr o.out).cell 5 _ rfl;have b2:(wr).frozen? ⟨w.heap.size+1,0,none⟩=false:=frozen_of_row _ _ _ _ _ ((i.out wr o.out));have b3:(wr).frozen? ⟨w.heap.size+1,1,none⟩=false:=frozen_of_row _ _ _ _ _ ((i.out wr o.out));have b4:(wr).frozen? ⟨w.heap.size+1,2,none⟩=false:=frozen_of_row _ _ _ _ _ ((i.out wr o.out));have b5:(wr).frozen? ⟨w.heap.size+1,3,none⟩=false:=frozen_of_row _ _ _ _ _ ((i.out wr o.out));have b6:(wr).frozen? ⟨w.heap.size+1,4,none⟩=false:=frozen_of_row _ _ _ _ _ ((i.out wr o.out));have b7:(wr).frozen? ⟨w.heap.size+1,5,none⟩=false:=frozen_of_row _ _ _ _ _ ((i.out wr o.out));go_wp2;refine bodyPost_ret (v:= .tuple #[.agg bc,.int .i64 16]) (by simp[results,Tryz.results12,go_sem,c0,c1,bv,bx,bz,b1,b2,b3,b4,b5,b6,b7]) rfl ⟨da.out,λR a5 bf=>?_⟩;rw[bd.out]at a5 bf;obtain rfl:=bf ge.out;refine⟨_,rfl,rfl,?_⟩;have cp:Hid (Below w.heap.size w wr):=b9.out.trans (o.out.mono u.out.2.2);exact((((((cp.out).setCell u.out.1 _).setCell u.out.1 _).setCell u.out.1 _).setCell u.out.1 _).setCell u.out.1 _).setCell u.out.1 _
theorem pY (A:Option Addr) (n d:Nat) (l:List UInt8) (c:Int) (a:Bool) (b:Int) (w:World) (hs:SR vU 0 w A n d l) (hl:l.length<=60\/4096<l.length):
 Calls Tryz.prog 12 #[.slice A n d,.agg #[.int .i64 c,.bool a,.int .i64 b]] w λe w'=>(jG l.length c a b=0->∃C,cj (bA l) C)/\nK w l (kT l c a b) e w':=by
 have o:n<=9223372036854775807:=by have:=hs.hm;have:=hs.hc;unfold maxLen at*;omega
 have hn:n=l.length:=hs.hn;have r:jG l.length c a b=if 4096<l.length then 4 else if l.length=0 then 5 else if c≠0/\dN c a=false then 14 else if b<5\/90<b then 3 else 0:=rfl
 have y:∀k:Int,jG l.length c a b=k->k≠0->Calls Tryz.prog 12 #[.slice A n d,.agg #[.int .i64 c,.bool a,.int .i64 b]] w (nK w l (none,k))->Calls Tryz.prog 12 #[.slice A n d,.agg #[.int .i64 c,.bool a,.int .i64 b]] w λe w'=>(jG l.length c a b=0->∃C,cj (bA l) C)/\nK w l (kT l c a b) e w':=by
  intro k i j B;refine B.mono λe w' h=>⟨λf=>absurd (i.symm.trans f) j,?_⟩;unfold kT;rw[i,if_pos j];exact h
 by_cases s:4096<l.length
 ·exact y 4 (by rw[r,if_pos s]) oD (G4 A n d l c a b w oO o)
 by_cases v:l.length=0
 ·have:n=0:=oO;subst this;exact y 5 (by rw[r,if_neg s,if_pos v]) oD (Hc A d l c a b w)
 by_cases m:c≠0/\dN c a=false
 ·exact y 14 (by rw[r,if_neg s,if_neg v,if_pos m]) oD (E9 A n d l c a b w oO oO m.1 m.2 o)
 have t:c≠0->dN c a=true:=λh=>by
  cases t:dN c a with
  |true=>rfl
  |false=>exact absurd ⟨h,t⟩ m
 by_cases z:b<5\/90<b
 ·refine y 3 (by rw[r,if_neg s,if_neg v,if_neg m,if_pos z]) oD ?_;by_cases f:c=0
  ·subst f;by_cases u:b<5
   ·exact Et A n d l a b w oO oO u o
   ·exact E3 A n d l a b w oO oO u oO o
  ·by_cases u:b<5
   ·exact Fa A n d l c a b w oO oO f (t f) u o
   ·exact EN A n d l c a b w oO oO f (t f) u oO o
 have x:jG l.length c a b=0:=by rw[r,if_neg s,if_neg v,if_neg m,if_neg z]
 obtain⟨q,rfl⟩:∃q:Nat,b=q:=⟨b.toNat,by omega⟩;by_cases f:c=0
 ·subst f;refine(C0 A n d l a q w hs oO oO oO oO).mono ?_;rintro e w' ⟨i,j⟩;refine⟨λ_=>i,j _ (λp g=>?_) (λg=>?_)⟩
  ·unfold kT;rw[x,if_neg oD];show(match fO (bF l) q 0 a with|some p=>(some p,(0:Int))|none=>(none,16))=_;rw[g]
  ·unfold kT;rw[x,if_neg oD];show(match fO (bF l) q 0 a with|some p=>(some p,(0:Int))|none=>(none,16))=_;rw[g]
 ·obtain⟨k,rfl,D,E,F⟩:=fL (t f);refine(Bb A n d l a k D E F q w hs oO oO oO oO).mono ?_;rintro e w' ⟨i,j⟩;refine⟨λ_=>i,j _ (λp g=>?_) (λg=>?_)⟩
  ·unfold kT;rw[x,if_neg oD];show(match fO (bF l) q k a with|some p=>(some p,(0:Int))|none=>(none,16))=_;rw[g]
  ·unfold kT;rw[x,if_neg oD];show(match fO (bF l) q k a with|some p=>(some p,(0:Int))|none=>(none,16))=_;rw[g]
theorem MR (h:∃C,cj (bA [65]) C):kT [65] 0 false 33=(some (1,true),0)/\(aJ (bF [65]) (aq 1)).length=1:=by
 obtain⟨C,a⟩:=h;have b:(bF [65]).length=5:=by
  rw[nZ oD a,rQ oD a];exact MU a
 obtain⟨e,e1,e2,e3,e4,e5,e6,e7⟩:=kN (bF [65]) 6 oO oO oO;have c:(aJ (bF [65]) 6).length=1:=by rw[b]at e4 e5;omega
 refine⟨?_,c⟩;have d:fO (bF [65]) 33 0 false=some (1,true):=by
  have f:jI (bF [65]) 33 (1,true)=true:=by
   unfold jI;show vb 1 true (aJ (bF [65]) 6).length _ 33=true;rw[c,b]
   decide
  show((1,true)::_:List (Nat×Bool)).find? _=_;rw[List.find?_cons,f]
 show(match fO (bF [65]) 33 0 false with|some p=>(some p,(0:Int))|none=>(none,16))=_;rw[d]
theorem Mr:(qR 1 true).length=104/\(rK 1 true).length=28/\(qR 1 true).getD 3 (0,0)=(1,1)/\(rK 1 true).getD 0 (0,0)=(4,2)/\tY 1 true=0:=⟨by kernel_rfl,by kernel_rfl,by kernel_rfl,by kernel_rfl,by kernel_rfl⟩
theorem oI (w:World):Calls Tryz.prog 11 #[] w λe w'=>e= .returned (.bool true)/\Below w.heap.size w w':=by
 have Y:Hid (∀W,Calls Tryz.prog 13 #[.int .i64 1,.bool true] W λe w'=>e= .returned (.tuple #[.int .i64 15,.int .i64 0])/\Below W.heap.size W w'):=λW=>rV 1 true W;have Z:Hid (∀W,Calls Tryz.prog 13 #[.int .i64 5,.bool false] W λe w'=>e= .returned (.tuple #[.int .i64 37,.int .i64 0])/\Below W.heap.size W w'):=λW=>rV 5 false W;have ab:Hid (∀W,Calls Tryz.prog 13 #[.int .i64 32,.bool false] W λe w'=>e= .returned (.tuple #[.int .i64 151,.int .i64 0])/\Below W.heap.size W w'):=λW=>rV 32 false W;have ac:Hid (∀W,Calls Tryz.prog 16 #[.int .i64 1,.bool true] W λe w'=>e= .returned (.tuple #[.int .i64 6,.int .i64 17,.int .i64 0])/\Below W.heap.size W w'):=λW=>sH 1 true W;have ad:Hid (∀W,Calls Tryz.prog 16 #[.int .i64 32,.bool false] W λe w'=>e= .returned (.tuple #[.int .i64 12,.int .i64 1664,.int .i64 0])/\Below W.heap.size W w'):=λW=>sH 32 false W;have G:Hid (∀W,Calls Tryz.prog 15 #[.int .i64 1,.bool true] W λe w'=>∃g b c a i m,e= .returned (.tuple #[.slice (some ⟨g,b,none⟩) 104 c,.slice (some ⟨a,i,none⟩) 28 m,.int .i64 0])/\Below W.heap.size W w'/\Hid (g<w'.heap.size/\a<w'.heap.size/\w'.cell? ⟨g,b+6,none⟩=some (.int .i64 1)/\w'.cell? ⟨g,b+7,none⟩=some (.int .i64 1)/\w'.cell? ⟨a,i,none⟩=some (.int .i64 4)/\w'.cell? ⟨a,i+1,none⟩=some (.int .i64 2))):=by
  show∀W,_;intro W;refine(JN 1 true W).mono ?_;rintro e w' ⟨v,u,rfl,⟨A,c,rfl,-,-,s⟩,⟨a6,m,rfl,-,-,H⟩,hb⟩;obtain⟨p1,p2,J,K,L⟩:=Mr;obtain⟨g,b,rfl,hg,hc⟩:=s (by rw[p1];omega);obtain⟨a,i,rfl,al,am⟩:=H (by rw[p2];omega);have o:=hc 3 (by rw[p1];omega);have q:=am 0 (by rw[p2];omega);rw[J]at o;rw[K]at q;refine⟨g,b,c,a,i,m,by rw[p1,p2,L],hb,hg,al,o.1,o.2,?_,?_⟩
  ·have:=q.1;rw[Nat.zero_mul,Nat.add_zero]at this;exact this
  ·have:=q.2;rw[Nat.zero_mul,Nat.add_zero]at this;exact this
 have ap:Hid (∀W:World,Calls Tryz.prog 12 #[.slice (some ⟨W.heap.size,0,none⟩) 1 1,.agg #[.int .i64 0,.bool false,.int .i64 33]] (W.alloc (.cells #[.int .u8 65] 5 (1,2))) λe w'=>∃A N k,e= .returned (.tuple #[.agg #[.int .i64 1,.bool true,.int .i64 1,.int .i64 15,.int .i64 15,.slice A N k],.int .i64 0])/\Below W.heap.size W w'):=by
  show∀W:World,_;intro W;have hs:SR vU 0 (W.alloc (.cells #[.int .u8 65] 5 (1,2))) (some ⟨W.heap.size,0,none⟩) 1 1 [65]:=SR.Nj (f:=vU) (d:=0) W [65] 5 (1,2) 1 rfl oM;refine(pY (some ⟨W.heap.size,0,none⟩) 1 1 [65] 0 false 33 _ hs (.inl oD)).mono ?_;rintro e w' ⟨s,v,rfl,t,hb⟩;obtain⟨M,O⟩:=MR (s oD);rw[M]at t⊢;obtain⟨A,N,k,-,rfl,-⟩:=t;rw[O];exact⟨A,N,k,rfl,cP hb⟩
 have a7:=λ(w:World) (C:Array Value) (n c:Nat)=>Lib.run_convert_bytes_const (P:=Tryz.prog) w 22 5 C n c Tryz.underlying22 Tryz.underlying5;go_enter Tryz.func11,Tryz.ntmps11
 go_wp2_with(first
  |(go_at_call 13;(with_reducible show Calls _ _ #[.int .i64 1,_] _ _);refine(Y.out _).mono ?_;rintro e Q ⟨rfl,x⟩;have av:Hid (Below w.heap.size w Q):=x;clear x)
  |(go_at_call 13;(with_reducible show Calls _ _ #[.int .i64 5,_] _ _);refine(Z.out _).mono ?_;rintro e S ⟨rfl,y⟩;have a0:Hid (Below w.heap.size w S):=ae av.out y;clear y)
  |(go_at_call 13;(with_reducible show Calls _ _ #[.int .i64 32,_] _ _);refine(ab.out _).mono ?_;rintro e T ⟨rfl,z⟩;have a1:Hid (Below w.heap.size w T):=ae a0.out z;clear z)
  |(go_at_call 16;(with_reducible show Calls _ _ #[.int .i64 1,_] _ _);refine(ac.out _).mono ?_;rintro e U ⟨rfl,B⟩;have a2:Hid (Below w.heap.size w U):=ae a1.out B;clear B)
  |(go_at_call 16;(with_reducible show Calls _ _ #[.int .i64 32,_] _ _);refine(ad.out _).mono ?_;rintro e V ⟨rfl,D⟩;have a3:Hid (Below w.heap.size w V):=ae a2.out D;clear D)
  |(go_at_call 15;refine(G.out _).mono ?_;rintro e r ⟨g,b,c,a,i,m,rfl,E,j⟩;have a4:Hid (Below w.heap.size w r):=ae a3.out E;clear E)
  |(go_at_call 12;refine(ap.out r).mono ?_;rintro e X ⟨A,N,k,rfl,F⟩;have a5:=Lib.hid F;have l:Hid (Below r.heap.size r (X.alloc (.cells #[.int .i64 1,.bool true,.int .i64 1,.int .i64 15,.int .i64 15,.slice A N k] 30))):=ah a5.out _;have o:=(l.out.cell (p:=⟨g,b+6,none⟩) j.out.1).trans j.out.2.2.1;have q:=(l.out.cell (p:=⟨g,b+7,none⟩) j.out.1).trans j.out.2.2.2.1;have a8:=(l.out.cell (p:=⟨a,i,none⟩) j.out.2.1).trans j.out.2.2.2.2.1;have a9:=(l.out.cell (p:=⟨a,i+1,none⟩) j.out.2.1).trans j.out.2.2.2.2.2;clear F))
 go_ret;exact⟨rfl,ae a4.out l.out⟩
theorem yH {l:List UInt8} {b:Int} {d:Bool} {g:Int} {L:Nat} {c:Bool} {k:Int} (h:kT l b d g=(some (L,c),k)):k=0/\jG l.length b d g=0/\jI (bF l) g.toNat (L,c)=true/\1<=L/\L<=32/\(c=true->L<=4):=by
 unfold kT at h;by_cases a:jG l.length b d g=0
 ·rw[a,if_neg oD]at h;cases j:fO (bF l) g.toNat b.toNat d with
  |none=>rw[j]at h;injection h with f _;cases f
  |some p=>
   rw[j]at h;injection h with f r;injection f with f;subst f;have n:(xo b.toNat d).find? (jI (bF l) g.toNat)=some (L,c):=j;refine⟨r.symm,a,List.find?_some n,?_⟩;have i:=List.mem_of_find?_eq_some n;unfold xo at i;by_cases o:b.toNat=0
   ·rw[if_pos o]at i;exact DB _ _ i
   ·rw[if_neg o,List.mem_singleton]at i;injection i with e1 e2;have m:dN b d=true:=by
     cases m:dN b d with
     |true=>rfl
     |false=>
      exfalso;unfold jG at a;split at a
      ·exact absurd a oD
      split at a
      ·exact absurd a oD
      rw[if_pos ⟨by omega,m⟩]at a;exact absurd a oD
    obtain⟨q,e,t,u,s⟩:=fL m;subst e1 e2;exact⟨by omega,by omega,λh=>by have:=s h;omega⟩
 ·rw[if_pos a]at h;injection h with f _;cases f
theorem GM {l:List UInt8} {a:Int} {b:Bool} {e:Int} {k:Int} (h:kT l a b e=(none,k)):¬k=0:=by
 unfold kT at h;by_cases c:jG l.length a b e=0
 ·rw[c,if_neg oD]at h;cases f:fO (bF l) e.toNat a.toNat b with
  |none=>rw[f]at h;injection h with _ d;rw[<-d];decide
  |some p=>rw[f]at h;injection h with g _;cases g
 ·rw[if_pos c]at h;injection h with _ d;rw[<-d];exact c
theorem Ih {l:List UInt8} (hl:l.length<=60) {C:Nat->Nat->Nat} (i:cj (bA l) C) {m:Int} {n:Bool} {q:Int} {L:Nat} {c:Bool} {k:Int} (h:kT l m n q=(some (L,c),k)):
 1<=(bF l).length/\1<=L/\L<=32/\(c=true->L<=4)/\(aJ (bF l) (aq L)).length<=gj c/\(aJ (bF l) (aq L)).length<ay L c/\1<=(aJ (bF l) (aq L)).length:=by
 obtain⟨-,b,j,d,f,o⟩:=yH h;have a:1<=l.length:=by
  unfold jG at b;rcases Nat.eq_zero_or_pos l.length with a|a
  ·rw[if_neg oO,if_pos a]at b;exact absurd b oD
  ·exact a
 have p:=vn oO a i;obtain⟨r,s,t,u⟩:=kG hl i L rfl;have g:1<=(aJ (bF l) (aq L)).length:=by
  have hs:=fu L;obtain⟨e,e1,e2,e3,e4,e5,e6,e7⟩:=kN (bF l) (aq L) oO oO oO;rcases Nat.eq_zero_or_pos (aJ (bF l) (aq L)).length with a|a
  ·rw[a]at e4;omega
  ·exact a
 exact⟨p,d,f,o,(pG j d f g).1,(pG j d f g).2,g⟩
theorem LN {l:List UInt8} (hl:l.length<=60) (a:∃C,cj (bA l) C) {b:Int} {d:Bool} {n:Int} {L:Nat} {c:Bool} {k:Int} (h:kT l b d n=(some (L,c),k)):
 cu (ai L c) (ai L c) (eo L c (aJ (bF l) (aq L)))=(l,0,0):=by
 obtain⟨C,a⟩:=a;obtain⟨e,f,g,i,j,m,o⟩:=Ih hl a h;exact Jg hl e a f g i rfl j m
end
end Go.Proofs.YtmnlkganmgcpbaaGreatDoor
