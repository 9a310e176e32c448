import Derived.Test.YtmnlkganmgcpbaaGreatDoorQk21
set_option maxRecDepth 100000
set_option maxHeartbeats 4000000
set_option linter.unusedVariables false
set_option linter.unusedSectionVars false
set_option linter.unusedSimpArgs false
namespace Go.Proofs.YtmnlkganmgcpbaaGreatDoor
section
open Go.RowKit
def E1 (w:World) (v:Value) (a:List Bool) (c:Option (Nat×Bool)):Prop:=match c with
 |none=>v= .agg aY
 |some p=>∃A N b,N=aj p.1 p.2* aj p.1 p.2/\v= .agg #[.int .i64 (p.1:Int),.bool p.2,.int .i64 ((aI a (aq p.1)).length:Int),.int .i64 ((aj p.1 p.2:Nat):Int),.int .i64 ((aj p.1 p.2:Nat):Int),.slice A N b]/\SR vB false w A N b (eB p.1 p.2 (aI a (aq p.1)))
def nS (w:World) (l:List UInt8) (r:Option (Nat×Bool)×Int) (e:Ending) (w':World):Prop:=∃v,e= .returned (.tuple #[v,.int .i64 r.2])/\E1 w' v (bE l) r.1/\Below w.heap.size w w'
def E6 (p:Nat×Bool):Prop:=1<=p.1/\p.1<=32/\(p.2=true->p.1<=4)
theorem D7 (c:Bool):∀p∈q7 c,E6 p:=by
 intro p a;unfold q7 at a;rw[List.mem_append]at a;rcases a with a|a
 ·obtain⟨i,b,rfl⟩:=List.mem_map.1 a;rw[List.mem_range]at b;exact⟨by show 1<=i+1;omega,by show i+1<=32;omega,λ_=>by show i+1<=4;omega⟩
 ·cases c with
  |true=>rw[if_pos rfl]at a;cases a
  |false=>
   rw[if_neg oD]at a;obtain⟨i,b,rfl⟩:=List.mem_map.1 a;rw[List.mem_range]at b;exact⟨by show 1<=i+4;omega,by show i+4<=32;omega,λh=>by cases h⟩
theorem Jx (c:Bool):(q7 c).length<=33:=by cases c<;>decide
theorem vb {a:List Bool} (h:a.length<=1048576) (L:Nat):ic a ((aq L:Nat):Int)=(aI a (aq L),0):=by
 have b:=eQ L;unfold ic;rw[if_neg oO,if_neg oO];rfl
theorem zK {α:Type} (f:α->Bool) (l:List α) (d:α) (j:Nat) (b:j<l.length) (h:(l.take j).find? f=none):(f (l.getD j d)=true->l.find? f=some (l.getD j d))/\(f (l.getD j d)=false->(l.take (j+1)).find? f=none):=by
 have e:l=l.take j++l.drop j:=(List.take_append_drop j l).symm;have e2:l.drop j=l.getD j d::l.drop (j+1):=by
  rw[List.drop_eq_getElem_cons b];simp[List.getD,b]
 constructor
 ·intro a;rw[e,List.find?_append,h,e2];have e3:(l.take j++l.getD j d::l.drop (j+1)).getD j d=l.getD j d:=by rw[<-e2,<-e]
  rw[e3,List.find?_cons,a];rfl
 ·intro a;rw[List.take_add_one,List.find?_append,h];simp only[List.getD]at a;rw[List.getElem?_eq_getElem b]at a⊢;simp only[Option.getD_some]at a;simp[a]
theorem Hw (A:Option Addr) (n i:Nat) (l:List UInt8) (b:Int) (c:Bool) (d:Int) (w:World) (m:4096<n) (x:n<=9223372036854775807):
 Calls Tryz.prog 12 #[.slice A n i,.agg #[.int .i64 b,.bool c,.int .i64 d]] w (nS w l (none,4)):=by
 obtain⟨a,e⟩:∃a,a=(w.alloc (.cells #[.int .i64 b,.bool c,.int .i64 d] 24)).alloc (.cells aY 30):=⟨_,rfl⟩;have p:=Lib.hid e;have q:Hid (Below w.heap.size w a):=by show Below _ _ _;rw[e];exact ah (ax _ _) _
 have g:Hid (aa a w.heap.size #[.int .i64 b,.bool c,.int .i64 d] 24):=by
  show aa _ _ _ _;rw[e];have j:aa (w.alloc (.cells #[.int .i64 b,.bool c,.int .i64 d] 24)) w.heap.size #[.int .i64 b,.bool c,.int .i64 d] 24:=aa.new _ _ _ _ rfl;exact j.below (ax _ _)
 have k:Hid (aa a (w.heap.size+1) aY 30):=by show aa _ _ _ _;rw[e];exact aa.new _ _ _ _ oS
 have r:Hid (w.heap.size<=w.heap.size+1/\w.heap.size+1<a.heap.size/\w.heap.size<=a.heap.size/\a.heap.size=w.heap.size+2):=by show _/\_;rw[e];simp;omega
 have s:Hid (∀W,af a W->W.cell? ⟨w.heap.size,0,none⟩=some (.int .i64 b)/\W.cell? ⟨w.heap.size,1,none⟩=some (.bool c)/\W.cell? ⟨w.heap.size,2,none⟩=some (.int .i64 d)):=λW f=>⟨(g.out.below f).cell 0 _ rfl,(g.out.below f).cell 1 _ rfl,(g.out.below f).cell 2 _ rfl⟩;have t:Hid (∀W,af a W->aa W (w.heap.size+1) aY 30):=λW f=>k.out.below f;have u:Hid (∀W,Below ((((w.alloc (.cells #[.int .i64 b,.bool c,.int .i64 d] 24)).alloc (.cells aY 30)).alloc (bC b c))).heap.size ((((w.alloc (.cells #[.int .i64 b,.bool c,.int .i64 d] 24)).alloc (.cells aY 30)).alloc (bC b c))) W->Below a.heap.size a W):=by show∀W,_->_;rw[<-e];exactλW h=>cH h
 clear e;have o:(4096:Int)<(n:Int):=oO;go_enter Tryz.func12,Tryz.ntmps12;go_wp2;refine bodyPost_ret (v:= .tuple #[.agg aY,.int .i64 4]) (by simp[results,Tryz.results12,go_sem]) rfl ⟨.agg aY,rfl,rfl,?_⟩;exact ah (ax _ _) _
theorem Hp (A:Option Addr) (a:Nat) (l:List UInt8) (b:Int) (c:Bool) (d:Int) (w:World):
 Calls Tryz.prog 12 #[.slice A 0 a,.agg #[.int .i64 b,.bool c,.int .i64 d]] w (nS w l (none,5)):=by
 go_enter Tryz.func12,Tryz.ntmps12;go_wp2;refine bodyPost_ret (v:= .tuple #[.agg aY,.int .i64 5]) (by simp[results,Tryz.results12,go_sem]) rfl ⟨.agg aY,rfl,rfl,?_⟩;exact ah (ax _ _) _
theorem Fh (A:Option Addr) (n x:Nat) (l:List UInt8) (c:Int) (f:Bool) (i:Int) (w:World) (Q:n<=4096) (S:1<=n) (T:¬c=0) (s:fH c f=false) (Y:n<=9223372036854775807):
 Calls Tryz.prog 12 #[.slice A n x,.agg #[.int .i64 c,.bool f,.int .i64 i]] w (nS w l (none,14)):=by
 obtain⟨b,j⟩:∃b,b=(w.alloc (.cells #[.int .i64 c,.bool f,.int .i64 i] 24)).alloc (.cells aY 30):=⟨_,rfl⟩;have L:=Lib.hid j;have M:Hid (Below w.heap.size w b):=by show Below _ _ _;rw[j];exact ah (ax _ _) _
 have r:Hid (aa b w.heap.size #[.int .i64 c,.bool f,.int .i64 i] 24):=by
  show aa _ _ _ _;rw[j];have y:aa (w.alloc (.cells #[.int .i64 c,.bool f,.int .i64 i] 24)) w.heap.size #[.int .i64 c,.bool f,.int .i64 i] 24:=aa.new _ _ _ _ rfl;exact y.below (ax _ _)
 have N:Hid (aa b (w.heap.size+1) aY 30):=by show aa _ _ _ _;rw[j];exact aa.new _ _ _ _ oS
 have k:Hid (w.heap.size<=w.heap.size+1/\w.heap.size+1<b.heap.size/\w.heap.size<=b.heap.size/\b.heap.size=w.heap.size+2):=by show _/\_;rw[j];simp;omega
 have t:Hid (∀W,af b W->W.cell? ⟨w.heap.size,0,none⟩=some (.int .i64 c)/\W.cell? ⟨w.heap.size,1,none⟩=some (.bool f)/\W.cell? ⟨w.heap.size,2,none⟩=some (.int .i64 i)):=λW m=>⟨(r.out.below m).cell 0 _ rfl,(r.out.below m).cell 1 _ rfl,(r.out.below m).cell 2 _ rfl⟩;have g:Hid (∀W,af b W->aa W (w.heap.size+1) aY 30):=λW m=>N.out.below m;have O:Hid (∀W,Below ((((w.alloc (.cells #[.int .i64 c,.bool f,.int .i64 i] 24)).alloc (.cells aY 30)).alloc (bC c f))).heap.size ((((w.alloc (.cells #[.int .i64 c,.bool f,.int .i64 i] 24)).alloc (.cells aY 30)).alloc (bC c f))) W->Below b.heap.size b W):=by show∀W,_->_;rw[<-j];exactλW h=>cH h
 clear j;obtain⟨o,p,q⟩:=t.out b (Below.refl _ _);rw[L.out]at o p q;have U:¬(4096:Int)<(n:Int):=oO;have V:((n:Int)==0)=false:=by rw[beq_eq_false_iff_ne];omega
 have X:¬n=0:=oO;have P:Hid (∀W,Calls Tryz.prog 29 #[bD c f] W λe w'=>e= .returned (.bool false)/\Below W.heap.size W w'):=λW=>by rw[<-s];exact fQ c f W
 clear s;go_enter Tryz.func12,Tryz.ntmps12;go_wp2_with(go_at_call 29;refine(P.out _).mono ?_;rintro e a ⟨rfl,u⟩;have d:Hid (Below b.heap.size b a):=O.out _ u;clear u o p q;obtain⟨o,p,q⟩:=t.out a d.out;have c0:(a).cell? ⟨w.heap.size+1,0,none⟩=some (.int .i64 0):=(g.out a d.out).cell 0 _ rfl;have c1:(a).cell? ⟨w.heap.size+1,1,none⟩=some (.bool false):=(g.out a d.out).cell 1 _ rfl;have z:(a).cell? ⟨w.heap.size+1,2,none⟩=some (.int .i64 0):=(g.out a d.out).cell 2 _ rfl;have B:(a).cell? ⟨w.heap.size+1,3,none⟩=some (.int .i64 0):=(g.out a d.out).cell 3 _ rfl;have C:(a).cell? ⟨w.heap.size+1,4,none⟩=some (.int .i64 0):=(g.out a d.out).cell 4 _ rfl;have D:(a).cell? ⟨w.heap.size+1,5,none⟩=some (.slice none 0 0):=(g.out a d.out).cell 5 _ rfl;have E:(a).frozen? ⟨w.heap.size+1,0,none⟩=false:=frozen_of_row _ _ _ _ _ ((g.out a d.out));have F:(a).frozen? ⟨w.heap.size+1,1,none⟩=false:=frozen_of_row _ _ _ _ _ ((g.out a d.out));have G:(a).frozen? ⟨w.heap.size+1,2,none⟩=false:=frozen_of_row _ _ _ _ _ ((g.out a d.out));have H:(a).frozen? ⟨w.heap.size+1,3,none⟩=false:=frozen_of_row _ _ _ _ _ ((g.out a d.out));have J:(a).frozen? ⟨w.heap.size+1,4,none⟩=false:=frozen_of_row _ _ _ _ _ ((g.out a d.out));have K:(a).frozen? ⟨w.heap.size+1,5,none⟩=false:=frozen_of_row _ _ _ _ _ ((g.out a d.out)))
 refine bodyPost_ret (v:= .tuple #[.agg aY,.int .i64 14]) (by simp[results,Tryz.results12,go_sem,c0,c1,z,B,C,D,E,F,G,H,J,K]) rfl ⟨.agg aY,rfl,rfl,?_⟩;exact((((((M.out.trans (d.out.mono k.out.2.2.1)).setCell k.out.1 _).setCell k.out.1 _).setCell k.out.1 _).setCell k.out.1 _).setCell k.out.1 _).setCell k.out.1 _
theorem E5 (A:Option Addr) (n x:Nat) (l:List UInt8) (c:Int) (f:Bool) (i:Int) (w:World) (Q:n<=4096) (S:1<=n) (T:¬c=0) (s:fH c f=true) (U:i<5) (Z:n<=9223372036854775807):
 Calls Tryz.prog 12 #[.slice A n x,.agg #[.int .i64 c,.bool f,.int .i64 i]] w (nS w l (none,3)):=by
 obtain⟨b,j⟩:∃b,b=(w.alloc (.cells #[.int .i64 c,.bool f,.int .i64 i] 24)).alloc (.cells aY 30):=⟨_,rfl⟩;have L:=Lib.hid j;have M:Hid (Below w.heap.size w b):=by show Below _ _ _;rw[j];exact ah (ax _ _) _
 have r:Hid (aa b w.heap.size #[.int .i64 c,.bool f,.int .i64 i] 24):=by
  show aa _ _ _ _;rw[j];have y:aa (w.alloc (.cells #[.int .i64 c,.bool f,.int .i64 i] 24)) w.heap.size #[.int .i64 c,.bool f,.int .i64 i] 24:=aa.new _ _ _ _ rfl;exact y.below (ax _ _)
 have N:Hid (aa b (w.heap.size+1) aY 30):=by show aa _ _ _ _;rw[j];exact aa.new _ _ _ _ oS
 have k:Hid (w.heap.size<=w.heap.size+1/\w.heap.size+1<b.heap.size/\w.heap.size<=b.heap.size/\b.heap.size=w.heap.size+2):=by show _/\_;rw[j];simp;omega
 have t:Hid (∀W,af b W->W.cell? ⟨w.heap.size,0,none⟩=some (.int .i64 c)/\W.cell? ⟨w.heap.size,1,none⟩=some (.bool f)/\W.cell? ⟨w.heap.size,2,none⟩=some (.int .i64 i)):=λW m=>⟨(r.out.below m).cell 0 _ rfl,(r.out.below m).cell 1 _ rfl,(r.out.below m).cell 2 _ rfl⟩;have g:Hid (∀W,af b W->aa W (w.heap.size+1) aY 30):=λW m=>N.out.below m;have O:Hid (∀W,Below ((((w.alloc (.cells #[.int .i64 c,.bool f,.int .i64 i] 24)).alloc (.cells aY 30)).alloc (bC c f))).heap.size ((((w.alloc (.cells #[.int .i64 c,.bool f,.int .i64 i] 24)).alloc (.cells aY 30)).alloc (bC c f))) W->Below b.heap.size b W):=by show∀W,_->_;rw[<-j];exactλW h=>cH h
 clear j;obtain⟨o,p,q⟩:=t.out b (Below.refl _ _);rw[L.out]at o p q;have V:¬(4096:Int)<(n:Int):=oO;have X:((n:Int)==0)=false:=by rw[beq_eq_false_iff_ne];omega
 have Y:¬n=0:=oO;have P:Hid (∀W,Calls Tryz.prog 29 #[bD c f] W λe w'=>e= .returned (.bool true)/\Below W.heap.size W w'):=λW=>by rw[<-s];exact fQ c f W
 clear s;go_enter Tryz.func12,Tryz.ntmps12;go_wp2_with(go_at_call 29;refine(P.out _).mono ?_;rintro e a ⟨rfl,u⟩;have d:Hid (Below b.heap.size b a):=O.out _ u;clear u o p q;obtain⟨o,p,q⟩:=t.out a d.out;have c0:(a).cell? ⟨w.heap.size+1,0,none⟩=some (.int .i64 0):=(g.out a d.out).cell 0 _ rfl;have c1:(a).cell? ⟨w.heap.size+1,1,none⟩=some (.bool false):=(g.out a d.out).cell 1 _ rfl;have z:(a).cell? ⟨w.heap.size+1,2,none⟩=some (.int .i64 0):=(g.out a d.out).cell 2 _ rfl;have B:(a).cell? ⟨w.heap.size+1,3,none⟩=some (.int .i64 0):=(g.out a d.out).cell 3 _ rfl;have C:(a).cell? ⟨w.heap.size+1,4,none⟩=some (.int .i64 0):=(g.out a d.out).cell 4 _ rfl;have D:(a).cell? ⟨w.heap.size+1,5,none⟩=some (.slice none 0 0):=(g.out a d.out).cell 5 _ rfl;have E:(a).frozen? ⟨w.heap.size+1,0,none⟩=false:=frozen_of_row _ _ _ _ _ ((g.out a d.out));have F:(a).frozen? ⟨w.heap.size+1,1,none⟩=false:=frozen_of_row _ _ _ _ _ ((g.out a d.out));have G:(a).frozen? ⟨w.heap.size+1,2,none⟩=false:=frozen_of_row _ _ _ _ _ ((g.out a d.out));have H:(a).frozen? ⟨w.heap.size+1,3,none⟩=false:=frozen_of_row _ _ _ _ _ ((g.out a d.out));have J:(a).frozen? ⟨w.heap.size+1,4,none⟩=false:=frozen_of_row _ _ _ _ _ ((g.out a d.out));have K:(a).frozen? ⟨w.heap.size+1,5,none⟩=false:=frozen_of_row _ _ _ _ _ ((g.out a d.out)))
 refine bodyPost_ret (v:= .tuple #[.agg aY,.int .i64 3]) (by simp[results,Tryz.results12,go_sem,c0,c1,z,B,C,D,E,F,G,H,J,K]) rfl ⟨.agg aY,rfl,rfl,?_⟩;exact((((((M.out.trans (d.out.mono k.out.2.2.1)).setCell k.out.1 _).setCell k.out.1 _).setCell k.out.1 _).setCell k.out.1 _).setCell k.out.1 _).setCell k.out.1 _
theorem EZ (A:Option Addr) (n x:Nat) (l:List UInt8) (c:Int) (f:Bool) (i:Int) (w:World) (Q:n<=4096) (S:1<=n) (T:¬c=0) (s:fH c f=true) (U:¬i<5) (V:90<i) (ab:n<=9223372036854775807):
 Calls Tryz.prog 12 #[.slice A n x,.agg #[.int .i64 c,.bool f,.int .i64 i]] w (nS w l (none,3)):=by
 obtain⟨b,j⟩:∃b,b=(w.alloc (.cells #[.int .i64 c,.bool f,.int .i64 i] 24)).alloc (.cells aY 30):=⟨_,rfl⟩;have L:=Lib.hid j;have M:Hid (Below w.heap.size w b):=by show Below _ _ _;rw[j];exact ah (ax _ _) _
 have r:Hid (aa b w.heap.size #[.int .i64 c,.bool f,.int .i64 i] 24):=by
  show aa _ _ _ _;rw[j];have y:aa (w.alloc (.cells #[.int .i64 c,.bool f,.int .i64 i] 24)) w.heap.size #[.int .i64 c,.bool f,.int .i64 i] 24:=aa.new _ _ _ _ rfl;exact y.below (ax _ _)
 have N:Hid (aa b (w.heap.size+1) aY 30):=by show aa _ _ _ _;rw[j];exact aa.new _ _ _ _ oS
 have k:Hid (w.heap.size<=w.heap.size+1/\w.heap.size+1<b.heap.size/\w.heap.size<=b.heap.size/\b.heap.size=w.heap.size+2):=by show _/\_;rw[j];simp;omega
 have t:Hid (∀W,af b W->W.cell? ⟨w.heap.size,0,none⟩=some (.int .i64 c)/\W.cell? ⟨w.heap.size,1,none⟩=some (.bool f)/\W.cell? ⟨w.heap.size,2,none⟩=some (.int .i64 i)):=λW m=>⟨(r.out.below m).cell 0 _ rfl,(r.out.below m).cell 1 _ rfl,(r.out.below m).cell 2 _ rfl⟩;have g:Hid (∀W,af b W->aa W (w.heap.size+1) aY 30):=λW m=>N.out.below m;have O:Hid (∀W,Below ((((w.alloc (.cells #[.int .i64 c,.bool f,.int .i64 i] 24)).alloc (.cells aY 30)).alloc (bC c f))).heap.size ((((w.alloc (.cells #[.int .i64 c,.bool f,.int .i64 i] 24)).alloc (.cells aY 30)).alloc (bC c f))) W->Below b.heap.size b W):=by show∀W,_->_;rw[<-j];exactλW h=>cH h
 clear j;obtain⟨o,p,q⟩:=t.out b (Below.refl _ _);rw[L.out]at o p q;have X:¬(4096:Int)<(n:Int):=oO;have Y:((n:Int)==0)=false:=by rw[beq_eq_false_iff_ne];omega
 have Z:¬n=0:=oO;have P:Hid (∀W,Calls Tryz.prog 29 #[bD c f] W λe w'=>e= .returned (.bool true)/\Below W.heap.size W w'):=λW=>by rw[<-s];exact fQ c f W
 clear s;go_enter Tryz.func12,Tryz.ntmps12;go_wp2_with(go_at_call 29;refine(P.out _).mono ?_;rintro e a ⟨rfl,u⟩;have d:Hid (Below b.heap.size b a):=O.out _ u;clear u o p q;obtain⟨o,p,q⟩:=t.out a d.out;have c0:(a).cell? ⟨w.heap.size+1,0,none⟩=some (.int .i64 0):=(g.out a d.out).cell 0 _ rfl;have c1:(a).cell? ⟨w.heap.size+1,1,none⟩=some (.bool false):=(g.out a d.out).cell 1 _ rfl;have z:(a).cell? ⟨w.heap.size+1,2,none⟩=some (.int .i64 0):=(g.out a d.out).cell 2 _ rfl;have B:(a).cell? ⟨w.heap.size+1,3,none⟩=some (.int .i64 0):=(g.out a d.out).cell 3 _ rfl;have C:(a).cell? ⟨w.heap.size+1,4,none⟩=some (.int .i64 0):=(g.out a d.out).cell 4 _ rfl;have D:(a).cell? ⟨w.heap.size+1,5,none⟩=some (.slice none 0 0):=(g.out a d.out).cell 5 _ rfl;have E:(a).frozen? ⟨w.heap.size+1,0,none⟩=false:=frozen_of_row _ _ _ _ _ ((g.out a d.out));have F:(a).frozen? ⟨w.heap.size+1,1,none⟩=false:=frozen_of_row _ _ _ _ _ ((g.out a d.out));have G:(a).frozen? ⟨w.heap.size+1,2,none⟩=false:=frozen_of_row _ _ _ _ _ ((g.out a d.out));have H:(a).frozen? ⟨w.heap.size+1,3,none⟩=false:=frozen_of_row _ _ _ _ _ ((g.out a d.out));have J:(a).frozen? ⟨w.heap.size+1,4,none⟩=false:=frozen_of_row _ _ _ _ _ ((g.out a d.out));have K:(a).frozen? ⟨w.heap.size+1,5,none⟩=false:=frozen_of_row _ _ _ _ _ ((g.out a d.out)))
 refine bodyPost_ret (v:= .tuple #[.agg aY,.int .i64 3]) (by simp[results,Tryz.results12,go_sem,c0,c1,z,B,C,D,E,F,G,H,J,K]) rfl ⟨.agg aY,rfl,rfl,?_⟩;exact((((((M.out.trans (d.out.mono k.out.2.2.1)).setCell k.out.1 _).setCell k.out.1 _).setCell k.out.1 _).setCell k.out.1 _).setCell k.out.1 _).setCell k.out.1 _
theorem ES (A:Option Addr) (n g:Nat) (l:List UInt8) (b:Bool) (c:Int) (w:World) (r:n<=4096) (s:1<=n) (t:c<5) (E:n<=9223372036854775807):
 Calls Tryz.prog 12 #[.slice A n g,.agg #[.int .i64 0,.bool b,.int .i64 c]] w (nS w l (none,3)):=by
 obtain⟨a,d⟩:∃a,a=(w.alloc (.cells #[.int .i64 0,.bool b,.int .i64 c] 24)).alloc (.cells aY 30):=⟨_,rfl⟩;have o:=Lib.hid d;have z:Hid (Below w.heap.size w a):=by show Below _ _ _;rw[d];exact ah (ax _ _) _
 have f:Hid (aa a w.heap.size #[.int .i64 0,.bool b,.int .i64 c] 24):=by
  show aa _ _ _ _;rw[d];have i:aa (w.alloc (.cells #[.int .i64 0,.bool b,.int .i64 c] 24)) w.heap.size #[.int .i64 0,.bool b,.int .i64 c] 24:=aa.new _ _ _ _ rfl;exact i.below (ax _ _)
 have p:Hid (aa a (w.heap.size+1) aY 30):=by show aa _ _ _ _;rw[d];exact aa.new _ _ _ _ oS
 have B:Hid (w.heap.size<=w.heap.size+1/\w.heap.size+1<a.heap.size/\w.heap.size<=a.heap.size/\a.heap.size=w.heap.size+2):=by show _/\_;rw[d];simp;omega
 have q:Hid (∀W,af a W->W.cell? ⟨w.heap.size,0,none⟩=some (.int .i64 0)/\W.cell? ⟨w.heap.size,1,none⟩=some (.bool b)/\W.cell? ⟨w.heap.size,2,none⟩=some (.int .i64 c)):=λW e=>⟨(f.out.below e).cell 0 _ rfl,(f.out.below e).cell 1 _ rfl,(f.out.below e).cell 2 _ rfl⟩;have C:Hid (∀W,af a W->aa W (w.heap.size+1) aY 30):=λW e=>p.out.below e;have D:Hid (∀W,Below ((((w.alloc (.cells #[.int .i64 0,.bool b,.int .i64 c] 24)).alloc (.cells aY 30)).alloc (bC 0 b))).heap.size ((((w.alloc (.cells #[.int .i64 0,.bool b,.int .i64 c] 24)).alloc (.cells aY 30)).alloc (bC 0 b))) W->Below a.heap.size a W):=by show∀W,_->_;rw[<-d];exactλW h=>cH h
 clear d;obtain⟨j,k,m⟩:=q.out a (Below.refl _ _);rw[o.out]at j k m;have u:¬(4096:Int)<(n:Int):=oO;have x:((n:Int)==0)=false:=by rw[beq_eq_false_iff_ne];omega
 have y:¬n=0:=oO;go_enter Tryz.func12,Tryz.ntmps12;go_wp2;refine bodyPost_ret (v:= .tuple #[.agg aY,.int .i64 3]) (by simp[results,Tryz.results12,go_sem]) rfl ⟨.agg aY,rfl,rfl,?_⟩;exact ah (ah (ax _ _) _) _
theorem EY (A:Option Addr) (n g:Nat) (l:List UInt8) (b:Bool) (c:Int) (w:World) (r:n<=4096) (s:1<=n) (t:¬c<5) (u:90<c) (F:n<=9223372036854775807):
 Calls Tryz.prog 12 #[.slice A n g,.agg #[.int .i64 0,.bool b,.int .i64 c]] w (nS w l (none,3)):=by
 obtain⟨a,d⟩:∃a,a=(w.alloc (.cells #[.int .i64 0,.bool b,.int .i64 c] 24)).alloc (.cells aY 30):=⟨_,rfl⟩;have o:=Lib.hid d;have B:Hid (Below w.heap.size w a):=by show Below _ _ _;rw[d];exact ah (ax _ _) _
 have f:Hid (aa a w.heap.size #[.int .i64 0,.bool b,.int .i64 c] 24):=by
  show aa _ _ _ _;rw[d];have i:aa (w.alloc (.cells #[.int .i64 0,.bool b,.int .i64 c] 24)) w.heap.size #[.int .i64 0,.bool b,.int .i64 c] 24:=aa.new _ _ _ _ rfl;exact i.below (ax _ _)
 have p:Hid (aa a (w.heap.size+1) aY 30):=by show aa _ _ _ _;rw[d];exact aa.new _ _ _ _ oS
 have C:Hid (w.heap.size<=w.heap.size+1/\w.heap.size+1<a.heap.size/\w.heap.size<=a.heap.size/\a.heap.size=w.heap.size+2):=by show _/\_;rw[d];simp;omega
 have q:Hid (∀W,af a W->W.cell? ⟨w.heap.size,0,none⟩=some (.int .i64 0)/\W.cell? ⟨w.heap.size,1,none⟩=some (.bool b)/\W.cell? ⟨w.heap.size,2,none⟩=some (.int .i64 c)):=λW e=>⟨(f.out.below e).cell 0 _ rfl,(f.out.below e).cell 1 _ rfl,(f.out.below e).cell 2 _ rfl⟩;have D:Hid (∀W,af a W->aa W (w.heap.size+1) aY 30):=λW e=>p.out.below e;have E:Hid (∀W,Below ((((w.alloc (.cells #[.int .i64 0,.bool b,.int .i64 c] 24)).alloc (.cells aY 30)).alloc (bC 0 b))).heap.size ((((w.alloc (.cells #[.int .i64 0,.bool b,.int .i64 c] 24)).alloc (.cells aY 30)).alloc (bC 0 b))) W->Below a.heap.size a W):=by show∀W,_->_;rw[<-d];exactλW h=>cH h
 clear d;obtain⟨j,k,m⟩:=q.out a (Below.refl _ _);rw[o.out]at j k m;have x:¬(4096:Int)<(n:Int):=oO;have y:((n:Int)==0)=false:=by rw[beq_eq_false_iff_ne];omega
 have z:¬n=0:=oO;go_enter Tryz.func12,Tryz.ntmps12;go_wp2;refine bodyPost_ret (v:= .tuple #[.agg aY,.int .i64 3]) (by simp[results,Tryz.results12,go_sem]) rfl ⟨.agg aY,rfl,rfl,?_⟩;exact ah (ah (ax _ _) _) _
theorem vO {l:List UInt8} {C:Nat->Nat->Nat} (hl:l.length<=2078) (d:1<=l.length) (h:cj (bA l) C):1<=(bE l).length:=by
 have hs:(bA l).size<=4096:=by rw[fA];omega
 rw[oz oO h,r7 hs h];obtain⟨c,-,a,b,-⟩:=h.uc hs 0 0 (by rw[fA];omega) oO;have:=a.size_pos;rw[<-b];unfold az.bI;omega
theorem pJ {a:List Bool} {b L:Nat} {c:Bool} (h:jG a b (L,c)=true) (d:1<=L) (e:L<=32) (f:1<=(aI a (aq L)).length):(aI a (aq L)).length<=gK c/\(aI a (aq L)).length<aD L c:=by
 unfold jG vL at h;simp only[Bool.and_eq_true,decide_eq_true_eq]at h;refine⟨h.1,?_⟩;have g:1<=aq L:=by rcases eQ L with h|h|h|h<;>omega
 apply Classical.byContradiction;intro hn;have:aq L* aD L c<=aq L* (aI a (aq L)).length:=Nat.mul_le_mul_left _ oO;omega
theorem DP (A:Option Addr) (n a6:Nat) (l:List UInt8) (f:Bool) (b:Nat) (w:World) (hs:SR vU 0 w A n a6 l) (n1:1<=n) (n2:n<=60) (p1:5<=b) (p2:b<=90):
 Calls Tryz.prog 12 #[.slice A n a6,.agg #[.int .i64 0,.bool f,.int .i64 (b:Int)]] w λe w'=>(∃C,cj (bA l) C)/\∀R,(∀p,fO (bE l) b 0 f=some p->R=(some p,0))->(fO (bE l) b 0 f=none->R=(none,16))->nS w l R e w':=by
 obtain⟨g,H⟩:∃g,g=(((w.alloc (.cells #[.int .i64 0,.bool f,.int .i64 (b:Int)] 24)).alloc (.cells aY 30)).alloc (bC 0 f)):=⟨_,rfl⟩;have b9:Hid (Below w.heap.size w g):=by show Below _ _ _;rw[H];exact ah (ah (ax _ _) _) _
 have eq:Hid (aa g w.heap.size #[.int .i64 0,.bool f,.int .i64 (b:Int)] 24):=by
  show aa _ _ _ _;rw[H];have r:aa (w.alloc (.cells #[.int .i64 0,.bool f,.int .i64 (b:Int)] 24)) w.heap.size #[.int .i64 0,.bool f,.int .i64 (b:Int)] 24:=aa.new _ _ _ _ rfl;exact(r.below (ax _ _)).below (ax _ _)
 have er:Hid (aa g (w.heap.size+1) aY 30):=by
  show aa _ _ _ _;rw[H];have r:aa ((w.alloc (.cells #[.int .i64 0,.bool f,.int .i64 (b:Int)] 24)).alloc (.cells aY 30)) (w.heap.size+1) aY 30:=aa.new _ _ _ _ oS;exact r.below (ax _ _)
 have es:Hid (aa g (w.heap.size+1+1) #[.int .i64 0,.bool f] 60):=by show aa _ _ _ _;rw[H];exact aa.new _ _ _ _ oS
 have s:Hid (w.heap.size<=w.heap.size+1/\w.heap.size+1<g.heap.size/\w.heap.size<=g.heap.size):=by show _/\_;rw[H];simp;omega
 have X:Hid (∀W,af g W->(W.cell? ⟨w.heap.size,0,none⟩=some (.int .i64 0)/\W.cell? ⟨w.heap.size,1,none⟩=some (.bool f)/\W.cell? ⟨w.heap.size,2,none⟩=some (.int .i64 (b:Int)))/\W.cell? ⟨w.heap.size+1+1,0,none⟩=some (.int .i64 0)/\W.cell? ⟨w.heap.size+1+1,1,none⟩=some (.bool f)):=by
  show∀W,_;intro W Q;have r:=eq.out.below Q;have K:=es.out.below Q;exact⟨⟨r.cell 0 _ rfl,r.cell 1 _ rfl,r.cell 2 _ rfl⟩,K.cell 0 _ rfl,K.cell 1 _ rfl⟩
 have i:Hid (∀W,af g W->aa W (w.heap.size+1) aY 30):=λW Q=>er.out.below Q;have et:Hid (∀W,Below (((w.alloc (.cells #[.int .i64 0,.bool f,.int .i64 (b:Int)] 24)).alloc (.cells aY 30)).alloc (bC 0 f)).heap.size (((w.alloc (.cells #[.int .i64 0,.bool f,.int .i64 (b:Int)] 24)).alloc (.cells aY 30)).alloc (bC 0 f)) W->Below g.heap.size g W):=by show∀W,_->_;rw[<-H];exactλW h=>h
 have c5:=Lib.hid H;have f6:Hid (n=l.length):=hs.hn;have ew:Hid (∀W,af w W->Calls Tryz.prog 30 #[.slice A n a6] W λe w'=>(∃C,cj (bA l) C)/\RT vB false W (bE l,0) e w'):=by
  show∀W,_->_;intro W Q;refine(xG A n a6 l W (hs.below Q) oO).mono ?_;rintro e w' ⟨C,F,d7⟩;refine⟨⟨C,F⟩,?_⟩;rw[oz (by rw[<-hs.hn];omega) F];exact d7
 have ex:Hid ((∃C,cj (bA l) C)->(bE l).length<=501/\1<=(bE l).length/\∀L,ao (2^aq L) (aI (bE l) (aq L))/\(aI (bE l) (aq L)).length<=501/\1<=(aI (bE l) (aq L)).length):=by
  show _->_;rintro⟨C,F⟩;have r:=qT (l:=l) (by rw[<-hs.hn];omega) F;rw[<-hs.hn]at r;have K:=vO (by rw[<-hs.hn];omega) (by rw[<-hs.hn];exact n1) F;refine⟨by omega,K,λL=>?_⟩;obtain⟨t,f7,d8,f8⟩:=mY (l:=l) (by rw[<-hs.hn];omega) F L rfl;refine⟨t,by omega,?_⟩;rcases Nat.eq_zero_or_pos (aI (bE l) (aq L)).length with ad|ad
  ·rw[ad]at d8;omega
  ·exact ad
 have f9:¬(4096:Int)<(n:Int):=oO;have gb:((n:Int)==0)=false:=by rw[beq_eq_false_iff_ne];omega
 have gc:¬n=0:=oO;have ge:¬(b:Int)<5:=oO;have gg:¬(90:Int)<(b:Int):=oO;have gi:decide (b<5)=false:=by simp;omega
 have go:decide (90<b)=false:=by simp;omega
 have gD:n<=4096:=oO;obtain⟨q,a5⟩:∃q,q=q7 f:=⟨_,rfl⟩;have c6:Hid (∀a,fO a b 0 f=q.find? (jG a b)):=by show∀a,_;intro a;unfold fO xU;rw[a5];rfl
 have ey:Hid (∀p∈q,E6 p):=by
  show∀p∈_,_;rw[a5];exact D7 f
 have ez:Hid (q.length<=33):=by show _<=_;rw[a5];exact Jx f
 have c7:=Lib.hid a5;obtain⟨⟨y,B,D⟩,E,t⟩:=X.out g (Below.refl _ _);rw[c5.out]at y B D E t;have gp:=Lib.hid hs;clear hs a5 n1 H;have eA:Hid (af w (((w.alloc (.cells #[.int .i64 0,.bool f,.int .i64 (b:Int)] 24)).alloc (.cells aY 30)).alloc (bC 0 f))):=by show Below _ _ _;rw[<-c5.out];exact b9.out
 have e0:Hid (∀W,Calls Tryz.prog 31 #[.bool f] W λe w'=>∃bi G cx,e= .returned (.slice bi G cx)/\Hid (q.length=G)/\Hid (My w' bi q)/\Below W.heap.size W w'):=λW=>by
  refine(Dc f W).mono ?_;rintro e w' ⟨v,rfl,⟨d9,x,rfl,-,-,h⟩,hb⟩;rw[<-c7.out]at h;exact⟨d9,q.length,x,by rw[c7.out],rfl,h,hb⟩
 go_enter Tryz.func12,Tryz.ntmps12
 go_wp2_with(first
  |(go_at_call 30;refine(ew.out _ eA.out).mono ?_;rintro e ea ⟨F,gq,rfl,c8,J⟩;obtain⟨gs,a7,gt,rfl,e9⟩:=c8.parts;have HC:=Lib.hid (ex.out F);have c9:=Lib.hid F;have fb:=Lib.hid e9;have ca:Hid (Below g.heap.size g ea):=et.out _ J;clear F c8 J y B D E t;obtain⟨⟨y,B,D⟩,E,t⟩:=X.out _ ca.out;obtain⟨⟨k0,ec,ed⟩,-,-⟩:=X.out _ (ah ca.out (.cells #[.int .i64 0,.bool f] 60)))
  |(go_at_call 31;refine(e0.out _).mono ?_;rintro e cN ⟨bi,G,cx,rfl,cb,fc,Y⟩;have da:Hid (Below g.heap.size g cN):=ae (ah ca.out _) Y;have a8:=Lib.hid (fb.out.below (ae (ax _ _) Y));clear Y y B D E t k0 ec ed))
 have gC:G<=33:=by have:=ez.out;rw[cb.out]at this;exact this
 have dd:Hid (∀a,(q.take 0).find? (jG a b)=none):=λa=>rfl;obtain⟨d4,fd,de⟩:=HC.out;have dk:=Lib.hid de;have a9:Hid (a7=(bE l).length):=a8.out.hn;have gv:a7<=501:=by rw[a9.out];exact d4
 clear de fd d4;obtain⟨a,bb⟩:∃a,Hid (bE l=a):=⟨_,rfl⟩;rw[bb.out]at a8 a9 dk;go_loopw [64] (λbo wr=>∃j:Nat,j<=G/\bo= .int .i64 j/\Hid ((q.take j).find? (jG a b)=none)/\Hid (af cN wr)) (λbo _=>G-(intOf bo).toNat)
 case atStart=>exact⟨0,Nat.zero_le _,rfl,dd.out a,Below.refl _ _⟩
 case round=>
  clear dd;obtain⟨j,ef,rfl,dn,hB⟩:=hrel;by_cases dp:j<G
  ·have bf:j<q.length:=by rw[cb.out];exact dp
   obtain⟨T,U,rfl,ds,dv⟩:=fc.out oO;have ce:=dv j bf;have dx:q.getD j (0,false)∈q:=by
    simp only[List.getD,List.getElem?_eq_getElem bf,Option.getD_some];exact List.getElem_mem bf
   have fe:=ey.out _ dx;have dy:=Lib.hid (zK (jG a b) q (0,false) j bf dn.out);have e1:wr.cell? ⟨T,U+j* 2,none⟩=some (.int .i64 ((q.getD j (0,false)).1:Int)):=(hB.out.cell (p:=⟨T,U+j* 2,none⟩) ds).trans ce.1;have e2:wr.cell? ⟨T,U+j* 2+1,none⟩=some (.bool (q.getD j (0,false)).2):=(hB.out.cell (p:=⟨T,U+j* 2+1,none⟩) ds).trans ce.2;generalize q.getD j (0,false)=p at*;obtain⟨L,c⟩:=p;obtain⟨al,M,c2⟩:=fe;have al:1<=L:=al;have M:L<=32:=M;have e1:wr.cell? ⟨T,U+j* 2,none⟩=some (.int .i64 (L:Int)):=e1;have e2:wr.cell? ⟨T,U+j* 2+1,none⟩=some (.bool c):=e2;have fl:Hid (c=true->L<=4):=c2;clear c2 ce dv dx;have ch:=eK wr L c;have o:Hid (Below g.heap.size g wr):=ae da.out hB.out;have dz:Hid (∀W,Calls Tryz.prog 33 #[bD L c] W λe w'=>e= .returned (.int .i64 ((aq L:Nat):Int))/\Below W.heap.size W w'):=λW=>kR L c W M;have d5:Hid (∀W A m x,SR vB false W A m x a->Calls Tryz.prog 32 #[.slice A m x,.int .i64 ((aq L:Nat):Int)] W (RT vN 0 W (aI a (aq L),0))):=by
    show∀W A m x,_->_;intro W A m x bq;have h:=zS A m x ((aq L:Nat):Int) a W bq;rw[vb (by rw[<-a9.out];omega)]at h;exact h
   obtain⟨dE,fn,ci⟩:=dk.out L;have bd:Hid (∀W,Calls Tryz.prog 34 #[bD L c,.int .i64 ((aI a (aq L)).length:Int),.int .i64 (a7:Int),.int .i64 (b:Int)] W λe w'=>e= .returned (.bool (jG a b (L,c)))/\Below W.heap.size W w'):=λW=>by
    have h:=Ci L c (aI a (aq L)).length a7 b W M oO oO oO;rw[a9.out]at h⊢;exact h
   have ck:Hid (jG a b (L,c)=true->(aI a (aq L)).length<=gK c/\(aI a (aq L)).length<aD L c):=by
    show _->_;intro h;exact pJ h al M ci
   have cq:Hid (jG a b (L,c)=true->∀W A m x,SR vN 0 W A m x (aI a (aq L))->Calls Tryz.prog 35 #[bD L c,.slice A m x] W λe w'=>∃db N,N=aj L c* aj L c/\e= .returned (.tuple #[pM L c m (aj L c) db N,.int .i64 0])/\bh w' db (eB L c (aI a (aq L)))/\W.heap.size<=db/\Below W.heap.size W w'):=λh W A m x bq=>
    xj L c _ A m x W al M fl.out dE ci (ck.out h).1 (ck.out h).2 bq
   have fo:(aj L c)* (aj L c)<=161* 161:=by have:=(j6 L c al M).2;exact Nat.mul_le_mul this this
   have f4:Hid ((eB L c (aI a (aq L))).length=aj L c* aj L c):=kD _ _ _ _;have cs:Hid (∀(R:Option (Nat×Bool)×Int) (W:World) (db N k:Nat),(∀p,fO a b 0 f=some p->R=(some p,0))->jG a b (L,c)=true->N=aj L c* aj L c->k=(aI a (aq L)).length->bh W db (eB L c (aI a (aq L)))->R=(some (L,c),0)/\E1 W (pM L c k (aj L c) db N) a (some (L,c))):=by
    show∀(R:Option (Nat×Bool)×Int) (W:World) (db N k:Nat),_->_->_->_->_->_;intro R W db N k r K bs eh ad;refine⟨r _ (by rw[c6.out];exact dy.out.1 K),⟨some ⟨db,0,none⟩,N,N,bs,by rw[eh],?_⟩⟩;exact ad.sr (by rw[bs,f4.out]) (by rw[bs];unfold maxLen;omega)
   clear dE fn ci;generalize aj L c=S at*;generalize eB L c (aI a (aq L))=dl at*;generalize fr:aI a (aq L)=c3 at*;generalize aq L=z at*;clear fr fo;have fv:Hid (∀(W:World) (db:Nat),af (wr.alloc (bC L c)) W->W.heap.size<=db->w.heap.size+1<db):=by
    show∀(W:World) (db:Nat),_->_->_;intro W db r K;have ei:=r.size;have gw:=o.out.size;have gx:=s.out.2.1;simp at ei;omega
   obtain⟨⟨y,B,D⟩,E,t⟩:=X.out wr o.out;cases hb:jG a b (L,c)with
   |true=>
    rw[hb]at bd;have f5:=Lib.hid (cq.out hb);have d6:=Lib.hid (λR W db N k r=>cs.out R W db N k r hb);clear cq cs hb
    go_wp2_with(first
     |(go_at_call 33;refine(dz.out _).mono ?_;rintro e bt ⟨rfl,a0⟩;have a1:Hid (af (wr.alloc (bC L c)) bt):=a0;have co:=Lib.hid ((a8.out.below hB.out).below (cH a1.out));clear a0 y B D E t e1 e2)
     |(go_at_call 32;refine(d5.out _ _ _ _ co.out).mono ?_;rintro e am ⟨ek,rfl,a2,J⟩;obtain⟨el,V,em,rfl,Z⟩:=a2.parts;have fx:=Lib.hid Z;have O:Hid (af (wr.alloc (bC L c)) am):=ae a1.out J;have P:Hid (V=c3.length):=Z.hn;have cv:Hid (Below g.heap.size g am):=ae o.out (cH O.out);clear a2 J Z;obtain⟨ap,av⟩:=ch.out _ O.out;obtain⟨⟨y,B,D⟩,E,t⟩:=X.out _ cv.out)
     |(go_at_call 34;rw[P.out];refine(bd.out _).mono ?_;rw[<-P.out];rintro e bv ⟨rfl,ab⟩;have a3:Hid (af (wr.alloc (bC L c)) bv):=ae O.out ab;have fz:=Lib.hid (fx.out.below ab);clear ab ap av y B D E t;obtain⟨ap,av⟩:=ch.out _ a3.out)
     |(go_at_call 35;refine(f5.out _ _ _ _ fz.out).mono ?_;rintro e d ⟨db,N,c4,rfl,d0,d1,Y⟩;have f0:Hid (af (wr.alloc (bC L c)) d):=ae a3.out Y;have d2:=Lib.hid d0;have d3:=Lib.hid c4;have f1:=Lib.hid (fv.out _ _ a3.out d1);clear d0 d1 Y c4 ap av;have u:Hid (Below g.heap.size g d):=ae o.out (cH f0.out);have c0:(d).cell? ⟨w.heap.size+1,0,none⟩=some (.int .i64 0):=(i.out d u.out).cell 0 _ rfl;have c1:(d).cell? ⟨w.heap.size+1,1,none⟩=some (.bool false):=(i.out d u.out).cell 1 _ rfl;have bx:(d).cell? ⟨w.heap.size+1,2,none⟩=some (.int .i64 0):=(i.out d u.out).cell 2 _ rfl;have bz:(d).cell? ⟨w.heap.size+1,3,none⟩=some (.int .i64 0):=(i.out d u.out).cell 3 _ rfl;have b1:(d).cell? ⟨w.heap.size+1,4,none⟩=some (.int .i64 0):=(i.out d u.out).cell 4 _ rfl;have b2:(d).cell? ⟨w.heap.size+1,5,none⟩=some (.slice none 0 0):=(i.out d u.out).cell 5 _ rfl;have b3:(d).frozen? ⟨w.heap.size+1,0,none⟩=false:=frozen_of_row _ _ _ _ _ ((i.out d u.out));have b4:(d).frozen? ⟨w.heap.size+1,1,none⟩=false:=frozen_of_row _ _ _ _ _ ((i.out d u.out));have b5:(d).frozen? ⟨w.heap.size+1,2,none⟩=false:=frozen_of_row _ _ _ _ _ ((i.out d u.out));have b6:(d).frozen? ⟨w.heap.size+1,3,none⟩=false:=frozen_of_row _ _ _ _ _ ((i.out d u.out));have b7:(d).frozen? ⟨w.heap.size+1,4,none⟩=false:=frozen_of_row _ _ _ _ _ ((i.out d u.out));have b8:(d).frozen? ⟨w.heap.size+1,5,none⟩=false:=frozen_of_row _ _ _ _ _ ((i.out d u.out))))
    refine bodyPost_ret (v:= .tuple #[pM L c V S db N,.int .i64 0]) (by simp[results,Tryz.results12,go_sem,c0,c1,bx,bz,b1,b2,b3,b4,b5,b6,b7,b8]) rfl ⟨c9.out,λR a4 be=>?_⟩;have ac:db≠w.heap.size+1:=by have:=f1.out;omega
    rw[bb.out]at a4 be;obtain rfl:=(d6.out R d db N V a4 d3.out P.out d2.out).1;refine⟨_,rfl,?_,?_⟩
    ·rw[bb.out];refine(d6.out _ _ db N V a4 d3.out P.out ?_).2;exact aa.bP (aa.bP (aa.bP (aa.bP (aa.bP (aa.bP d2.out _ _ ac) _ _ ac) _ _ ac) _ _ ac) _ _ ac) _ _ ac
    ·have cp:Hid (Below w.heap.size w d):=b9.out.trans (u.out.mono s.out.2.2);exact((((((cp.out).setCell s.out.1 _).setCell s.out.1 _).setCell s.out.1 _).setCell s.out.1 _).setCell s.out.1 _).setCell s.out.1 _
   |false=>
    rw[hb]at bd;have f2:=Lib.hid (dy.out.2 hb);clear cq cs hb ck
    go_wp2_with(first
     |(go_at_call 33;refine(dz.out _).mono ?_;rintro e bt ⟨rfl,a0⟩;have a1:Hid (af (wr.alloc (bC L c)) bt):=a0;have co:=Lib.hid ((a8.out.below hB.out).below (cH a1.out));clear a0 y B D E t e1 e2)
     |(go_at_call 32;refine(d5.out _ _ _ _ co.out).mono ?_;rintro e am ⟨ek,rfl,a2,J⟩;obtain⟨el,V,em,rfl,Z⟩:=a2.parts;have O:Hid (af (wr.alloc (bC L c)) am):=ae a1.out J;have P:Hid (V=c3.length):=Z.hn;have cv:Hid (Below g.heap.size g am):=ae o.out (cH O.out);clear a2 J Z;obtain⟨ap,av⟩:=ch.out _ O.out;obtain⟨⟨y,B,D⟩,E,t⟩:=X.out _ cv.out)
     |(go_at_call 34;rw[P.out];refine(bd.out _).mono ?_;rw[<-P.out];rintro e bv ⟨rfl,ab⟩;have a3:Hid (af (wr.alloc (bC L c)) bv):=ae O.out ab;clear ab ap av y B D E t))
    exact⟨⟨j+1,by omega,by go_num,f2.out,ae hB.out (cH a3.out)⟩,by simp[intOf];omega⟩
  ·have en:Hid (j=G):=by show _=_;omega
   have gy:decide (j<G)=false:=by simp;omega
   have f3:Hid (fO a b 0 f=none):=by show _=_;rw[c6.out];have:=dn.out;rw[en.out,<-cb.out,List.take_length]at this;exact this
   have gz:¬j<G:=oO;have o:Hid (Below g.heap.size g wr):=ae da.out hB.out;clear dp ef;have c0:(wr).cell? ⟨w.heap.size+1,0,none⟩=some (.int .i64 0):=(i.out wr o.out).cell 0 _ rfl;have c1:(wr).cell? ⟨w.heap.size+1,1,none⟩=some (.bool false):=(i.out wr o.out).cell 1 _ rfl;have bx:(wr).cell? ⟨w.heap.size+1,2,none⟩=some (.int .i64 0):=(i.out wr o.out).cell 2 _ rfl;have bz:(wr).cell? ⟨w.heap.size+1,3,none⟩=some (.int .i64 0):=(i.out wr o.out).cell 3 _ rfl;have b1:(wr).cell? ⟨w.heap.size+1,4,none⟩=some (.int .i64 0):=(i.out wr o.out).cell 4 _ rfl;have b2:(wr).cell? ⟨w.heap.size+1,5,none⟩=some (.slice none 0 0):=(i.out wr o.out).cell 5 _ rfl;have b3:(wr).frozen? ⟨w.heap.size+1,0,none⟩=false:=frozen_of_row _ _ _ _ _ ((i.out wr o.out));have b4:(wr).frozen? ⟨w.heap.size+1,1,none⟩=false:=frozen_of_row _ _ _ _ _ ((i.out wr o.out));have b5:(wr).frozen? ⟨w.heap.size+1,2,none⟩=false:=frozen_of_row _ _ _ _ _ ((i.out wr o.out));have b6:(wr).frozen? ⟨w.heap.size+1,3,none⟩=false:=frozen_of_row _ _ _ _ _ ((i.out wr o.out));have b7:(wr).frozen? ⟨w.heap.size+1,4,none⟩=false:=frozen_of_row _ _ _ _ _ ((i.out wr o.out));have b8:(wr).frozen? ⟨w.heap.size+1,5,none⟩=false:=frozen_of_row _ _ _ _ _ ((i.out wr o.out));go_wp2;refine bodyPost_ret (v:= .tuple #[.agg aY,.int .i64 16]) (by simp[results,Tryz.results12,go_sem,c0,c1,bx,bz,b1,b2,b3,b4,b5,b6,b7,b8]) rfl ⟨c9.out,λR a4 be=>?_⟩;rw[bb.out]at a4 be;obtain rfl:=be f3.out;refine⟨_,rfl,rfl,?_⟩;have cp:Hid (Below w.heap.size w wr):=b9.out.trans (o.out.mono s.out.2.2);exact((((((cp.out).setCell s.out.1 _).setCell s.out.1 _).setCell s.out.1 _).setCell s.out.1 _).setCell s.out.1 _).setCell s.out.1 _
theorem By (A:Option Addr) (n a7:Nat) (l:List UInt8) (f:Bool) (b:Nat) (c4:1<=b) (c5:b<=32) (b8:f=true->b<=4) (d:Nat) (w:World) (hs:SR vU 0 w A n a7 l) (n1:1<=n) (n2:n<=60) (p1:5<=d) (p2:d<=90):
 Calls Tryz.prog 12 #[.slice A n a7,.agg #[.int .i64 (b:Int),.bool f,.int .i64 (d:Int)]] w λe w'=>(∃C,cj (bA l) C)/\∀R,(∀p,fO (bE l) d b f=some p->R=(some p,0))->(fO (bE l) d b f=none->R=(none,16))->nS w l R e w':=by
 obtain⟨g,H⟩:∃g,g=(((w.alloc (.cells #[.int .i64 (b:Int),.bool f,.int .i64 (d:Int)] 24)).alloc (.cells aY 30)).alloc (bC b f)):=⟨_,rfl⟩;have b9:Hid (Below w.heap.size w g):=by show Below _ _ _;rw[H];exact ah (ah (ax _ _) _) _
 have es:Hid (aa g w.heap.size #[.int .i64 (b:Int),.bool f,.int .i64 (d:Int)] 24):=by
  show aa _ _ _ _;rw[H];have s:aa (w.alloc (.cells #[.int .i64 (b:Int),.bool f,.int .i64 (d:Int)] 24)) w.heap.size #[.int .i64 (b:Int),.bool f,.int .i64 (d:Int)] 24:=aa.new _ _ _ _ rfl;exact(s.below (ax _ _)).below (ax _ _)
 have et:Hid (aa g (w.heap.size+1) aY 30):=by
  show aa _ _ _ _;rw[H];have s:aa ((w.alloc (.cells #[.int .i64 (b:Int),.bool f,.int .i64 (d:Int)] 24)).alloc (.cells aY 30)) (w.heap.size+1) aY 30:=aa.new _ _ _ _ oS;exact s.below (ax _ _)
 have ew:Hid (aa g (w.heap.size+1+1) #[.int .i64 (b:Int),.bool f] 60):=by show aa _ _ _ _;rw[H];exact aa.new _ _ _ _ oS
 have u:Hid (w.heap.size<=w.heap.size+1/\w.heap.size+1<g.heap.size/\w.heap.size<=g.heap.size):=by show _/\_;rw[H];simp;omega
 have P:Hid (∀W,af g W->(W.cell? ⟨w.heap.size,0,none⟩=some (.int .i64 (b:Int))/\W.cell? ⟨w.heap.size,1,none⟩=some (.bool f)/\W.cell? ⟨w.heap.size,2,none⟩=some (.int .i64 (d:Int)))/\W.cell? ⟨w.heap.size+1+1,0,none⟩=some (.int .i64 (b:Int))/\W.cell? ⟨w.heap.size+1+1,1,none⟩=some (.bool f)):=by
  show∀W,_;intro W U;have s:=es.out.below U;have M:=ew.out.below U;exact⟨⟨s.cell 0 _ rfl,s.cell 1 _ rfl,s.cell 2 _ rfl⟩,M.cell 0 _ rfl,M.cell 1 _ rfl⟩
 have o:Hid (∀W,af g W->aa W (w.heap.size+1) aY 30):=λW U=>et.out.below U;have ex:Hid (∀W,Below (((w.alloc (.cells #[.int .i64 (b:Int),.bool f,.int .i64 (d:Int)] 24)).alloc (.cells aY 30)).alloc (bC b f)).heap.size (((w.alloc (.cells #[.int .i64 (b:Int),.bool f,.int .i64 (d:Int)] 24)).alloc (.cells aY 30)).alloc (bC b f)) W->Below g.heap.size g W):=by show∀W,_->_;rw[<-H];exactλW h=>h
 have ey:=Lib.hid H;have f9:Hid (n=l.length):=hs.hn;have ez:Hid (∀W,af w W->Calls Tryz.prog 30 #[.slice A n a7] W λe w'=>(∃C,cj (bA l) C)/\RT vB false W (bE l,0) e w'):=by
  show∀W,_->_;intro W U;refine(xG A n a7 l W (hs.below U) oO).mono ?_;rintro e w' ⟨C,G,d9⟩;refine⟨⟨C,G⟩,?_⟩;rw[oz (by rw[<-hs.hn];omega) G];exact d9
 have eA:Hid ((∃C,cj (bA l) C)->(bE l).length<=501/\1<=(bE l).length/\∀L,ao (2^aq L) (aI (bE l) (aq L))/\(aI (bE l) (aq L)).length<=501/\1<=(aI (bE l) (aq L)).length):=by
  show _->_;rintro⟨C,G⟩;have s:=qT (l:=l) (by rw[<-hs.hn];omega) G;rw[<-hs.hn]at s;have M:=vO (by rw[<-hs.hn];omega) (by rw[<-hs.hn];exact n1) G;refine⟨by omega,M,λL=>?_⟩;obtain⟨t,gb,ea,gc⟩:=mY (l:=l) (by rw[<-hs.hn];omega) G L rfl;refine⟨t,by omega,?_⟩;rcases Nat.eq_zero_or_pos (aI (bE l) (aq L)).length with al|al
  ·rw[al]at ea;omega
  ·exact al
 have ge:¬(4096:Int)<(n:Int):=oO;have gg:((n:Int)==0)=false:=by rw[beq_eq_false_iff_ne];omega
 have gi:¬n=0:=oO;have go:¬(d:Int)<5:=oO;have gp:¬(90:Int)<(d:Int):=oO;have gq:decide (d<5)=false:=by simp;omega
 have gs:decide (90<d)=false:=by simp;omega
 have g5:n<=4096:=oO;obtain⟨r,a6⟩:∃r,r=[(b,f)]:=⟨_,rfl⟩;have c6:Hid (∀a,fO a d b f=r.find? (jG a d)):=by show∀a,_;intro a;unfold fO xU;rw[a6];rw[if_neg oO]
 have e0:Hid (∀p∈r,E6 p):=by
  show∀p∈_,_;rw[a6];intro p cx;rw[List.mem_singleton]at cx;rw[cx];exact⟨c4,c5,b8⟩
 have g0:Hid (r.length<=33):=by show _<=_;rw[a6];show 1<=33;omega
 have c7:=Lib.hid a6;obtain⟨⟨x,y,B⟩,D,t⟩:=P.out g (Below.refl _ _);rw[ey.out]at x y B D t;have gt:=Lib.hid hs;clear hs a6 n1 H;have g1:((b:Int)==0)=false:=by rw[beq_eq_false_iff_ne];omega
 have g4:¬b=0:=oO;have e9:Hid (∀W,Calls Tryz.prog 29 #[bD b f] W λe w'=>e= .returned (.bool true)/\Below W.heap.size W w'):=λW=>by rw[<-qD c4 c5 b8];exact fQ b f W
 have fb:Hid (∀W:World,My (W.alloc (.cells #[.int .i64 (b:Int),.bool f] 60)) (some ⟨W.heap.size,0,none⟩) r):=by
  show∀W:World,_;intro W;obtain⟨gv,F,e,-,-,h⟩:=SY.lit W [(b,f)] 60 W.heap.size 1 rfl rfl oM;injection e with e1 _ _;rw[c7.out,e1];exact h
 clear b8;go_enter Tryz.func12,Tryz.ntmps12
 go_wp2_with(first
  |(go_at_call 29;refine(e9.out _).mono ?_;rintro e ec ⟨rfl,J⟩;have ca:Hid (Below g.heap.size g ec):=ex.out _ J;clear J x y B D t;obtain⟨⟨x,y,B⟩,D,t⟩:=P.out _ ca.out)
  |(go_at_call 30;refine(ez.out _ (ae b9.out ca.out)).mono ?_;rintro e V ⟨G,gw,rfl,c8,K⟩;obtain⟨gx,a8,gy,rfl,fc⟩:=c8.parts;have HC:=Lib.hid (eA.out G);have c9:=Lib.hid G;have fd:=Lib.hid fc;have cb:Hid (Below g.heap.size g V):=ae ca.out K;clear G c8 K x y B D t;obtain⟨⟨x,y,B⟩,D,t⟩:=P.out _ cb.out;obtain⟨⟨k0,ed,ef⟩,-,-⟩:=P.out _ (ah cb.out (.cells #[.int .i64 (b:Int),.bool f] 60))))
 have fe:=Lib.hid (fb.out V);have da:Hid (Below g.heap.size g (V.alloc (.cells #[.int .i64 (b:Int),.bool f] 60))):=ah cb.out _;have a9:=Lib.hid (fd.out.below (ax V (.cells #[.int .i64 (b:Int),.bool f] 60)));have dd:Hid (r.length=1):=by show _=_;rw[c7.out];rfl
 generalize fl:V.alloc (.cells #[.int .i64 (b:Int),.bool f] 60)=eh at*;clear fl x y B D t k0 ed ef;generalize am:(some ⟨V.heap.size,0,none⟩:Option Addr)=gz at*;clear am;have de:Hid (∀a,(r.take 0).find? (jG a d)=none):=λa=>rfl;obtain⟨d6,fn,dk⟩:=HC.out;have dn:=Lib.hid dk;have bb:Hid (a8=(bE l).length):=a9.out.hn;have gC:a8<=501:=by rw[bb.out];exact d6
 clear dk fn d6;obtain⟨a,bd⟩:∃a,Hid (bE l=a):=⟨_,rfl⟩;rw[bd.out]at a9 bb dn;go_loopw [64] (λbo wr=>∃j:Nat,j<=1/\bo= .int .i64 j/\Hid ((r.take j).find? (jG a d)=none)/\Hid (af eh wr)) (λbo _=>1-(intOf bo).toNat)
 case atStart=>exact⟨0,Nat.zero_le _,rfl,de.out a,Below.refl _ _⟩
 case round=>
  clear de;obtain⟨j,ei,rfl,dp,hB⟩:=hrel;by_cases ds:j<1
  ·have bi:j<r.length:=by rw[dd.out];exact ds
   obtain⟨X,Y,rfl,dv,dx⟩:=fe.out oO;have ce:=dx j bi;have dy:r.getD j (0,false)∈r:=by
    simp only[List.getD,List.getElem?_eq_getElem bi,Option.getD_some];exact List.getElem_mem bi
   have fo:=e0.out _ dy;have dz:=Lib.hid (zK (jG a d) r (0,false) j bi dp.out);have e1:wr.cell? ⟨X,Y+j* 2,none⟩=some (.int .i64 ((r.getD j (0,false)).1:Int)):=(hB.out.cell (p:=⟨X,Y+j* 2,none⟩) dv).trans ce.1;have e2:wr.cell? ⟨X,Y+j* 2+1,none⟩=some (.bool (r.getD j (0,false)).2):=(hB.out.cell (p:=⟨X,Y+j* 2+1,none⟩) dv).trans ce.2;generalize r.getD j (0,false)=p at*;obtain⟨L,c⟩:=p;obtain⟨ap,O,cN⟩:=fo;have ap:1<=L:=ap;have O:L<=32:=O;have e1:wr.cell? ⟨X,Y+j* 2,none⟩=some (.int .i64 (L:Int)):=e1;have e2:wr.cell? ⟨X,Y+j* 2+1,none⟩=some (.bool c):=e2;have fr:Hid (c=true->L<=4):=cN;clear cN ce dx dy;have ch:=eK wr L c;have q:Hid (Below g.heap.size g wr):=ae da.out hB.out;have dE:Hid (∀W,Calls Tryz.prog 33 #[bD L c] W λe w'=>e= .returned (.int .i64 ((aq L:Nat):Int))/\Below W.heap.size W w'):=λW=>kR L c W O;have d7:Hid (∀W A m F,SR vB false W A m F a->Calls Tryz.prog 32 #[.slice A m F,.int .i64 ((aq L:Nat):Int)] W (RT vN 0 W (aI a (aq L),0))):=by
    show∀W A m F,_->_;intro W A m F am;have h:=zS A m F ((aq L:Nat):Int) a W am;rw[vb (by rw[<-bb.out];omega)]at h;exact h
   obtain⟨d0,fv,ci⟩:=dn.out L;have be:Hid (∀W,Calls Tryz.prog 34 #[bD L c,.int .i64 ((aI a (aq L)).length:Int),.int .i64 (a8:Int),.int .i64 (d:Int)] W λe w'=>e= .returned (.bool (jG a d (L,c)))/\Below W.heap.size W w'):=λW=>by
    have h:=Ci L c (aI a (aq L)).length a8 d W O oO oO oO;rw[bb.out]at h⊢;exact h
   have ck:Hid (jG a d (L,c)=true->(aI a (aq L)).length<=gK c/\(aI a (aq L)).length<aD L c):=by
    show _->_;intro h;exact pJ h ap O ci
   have cq:Hid (jG a d (L,c)=true->∀W A m F,SR vN 0 W A m F (aI a (aq L))->Calls Tryz.prog 35 #[bD L c,.slice A m F] W λe w'=>∃db N,N=aj L c* aj L c/\e= .returned (.tuple #[pM L c m (aj L c) db N,.int .i64 0])/\bh w' db (eB L c (aI a (aq L)))/\W.heap.size<=db/\Below W.heap.size W w'):=λh W A m F am=>
    xj L c _ A m F W ap O fr.out d0 ci (ck.out h).1 (ck.out h).2 am
   have fx:(aj L c)* (aj L c)<=161* 161:=by have:=(j6 L c ap O).2;exact Nat.mul_le_mul this this
   have f7:Hid ((eB L c (aI a (aq L))).length=aj L c* aj L c):=kD _ _ _ _;have cs:Hid (∀(R:Option (Nat×Bool)×Int) (W:World) (db N k:Nat),(∀p,fO a d b f=some p->R=(some p,0))->jG a d (L,c)=true->N=aj L c* aj L c->k=(aI a (aq L)).length->bh W db (eB L c (aI a (aq L)))->R=(some (L,c),0)/\E1 W (pM L c k (aj L c) db N) a (some (L,c))):=by
    show∀(R:Option (Nat×Bool)×Int) (W:World) (db N k:Nat),_->_->_->_->_->_;intro R W db N k s M bq ek al;refine⟨s _ (by rw[c6.out];exact dz.out.1 M),⟨some ⟨db,0,none⟩,N,N,bq,by rw[ek],?_⟩⟩;exact al.sr (by rw[bq,f7.out]) (by rw[bq];unfold maxLen;omega)
   clear d0 fv ci;generalize aj L c=S at*;generalize eB L c (aI a (aq L))=dl at*;generalize fz:aI a (aq L)=c2 at*;generalize aq L=z at*;clear fz fx;have f0:Hid (∀(W:World) (db:Nat),af (wr.alloc (bC L c)) W->W.heap.size<=db->w.heap.size+1<db):=by
    show∀(W:World) (db:Nat),_->_->_;intro W db s M;have el:=s.size;have gD:=q.out.size;have gN:=u.out.2.1;simp at el;omega
   obtain⟨⟨x,y,B⟩,D,t⟩:=P.out wr q.out;cases hb:jG a d (L,c)with
   |true=>
    rw[hb]at be;have f8:=Lib.hid (cq.out hb);have d8:=Lib.hid (λR W db N k s=>cs.out R W db N k s hb);clear cq cs hb
    go_wp2_with(first
     |(go_at_call 33;refine(dE.out _).mono ?_;rintro e bs ⟨rfl,J⟩;have a2:Hid (af (wr.alloc (bC L c)) bs):=J;have co:=Lib.hid ((a9.out.below hB.out).below (cH a2.out));clear J x y B D t e1 e2)
     |(go_at_call 32;refine(d7.out _ _ _ _ co.out).mono ?_;rintro e av ⟨em,rfl,a3,K⟩;obtain⟨en,Z,eq,rfl,ab⟩:=a3.parts;have f1:=Lib.hid ab;have Q:Hid (af (wr.alloc (bC L c)) av):=ae a2.out K;have T:Hid (Z=c2.length):=ab.hn;have cv:Hid (Below g.heap.size g av):=ae q.out (cH Q.out);clear a3 K ab;obtain⟨a0,a1⟩:=ch.out _ Q.out;obtain⟨⟨x,y,B⟩,D,t⟩:=P.out _ cv.out)
     |(go_at_call 34;rw[T.out];refine(be.out _).mono ?_;rw[<-T.out];rintro e bt ⟨rfl,ac⟩;have a4:Hid (af (wr.alloc (bC L c)) bt):=ae Q.out ac;have f2:=Lib.hid (f1.out.below ac);clear ac a0 a1 x y B D t;obtain⟨a0,a1⟩:=ch.out _ a4.out)
     |(go_at_call 35;refine(f8.out _ _ _ _ f2.out).mono ?_;rintro e i ⟨db,N,c3,rfl,d1,d2,d3⟩;have f3:Hid (af (wr.alloc (bC L c)) i):=ae a4.out d3;have d4:=Lib.hid d1;have d5:=Lib.hid c3;have f4:=Lib.hid (f0.out _ _ a4.out d2);clear d1 d2 d3 c3 a0 a1;have E:Hid (Below g.heap.size g i):=ae q.out (cH f3.out);have c0:(i).cell? ⟨w.heap.size+1,0,none⟩=some (.int .i64 0):=(o.out i E.out).cell 0 _ rfl;have c1:(i).cell? ⟨w.heap.size+1,1,none⟩=some (.bool false):=(o.out i E.out).cell 1 _ rfl;have bv:(i).cell? ⟨w.heap.size+1,2,none⟩=some (.int .i64 0):=(o.out i E.out).cell 2 _ rfl;have bx:(i).cell? ⟨w.heap.size+1,3,none⟩=some (.int .i64 0):=(o.out i E.out).cell 3 _ rfl;have bz:(i).cell? ⟨w.heap.size+1,4,none⟩=some (.int .i64 0):=(o.out i E.out).cell 4 _ rfl;have b1:(i).cell? ⟨w.heap.size+1,5,none⟩=some (.slice none 0 0):=(o.out i E.out).cell 5 _ rfl;have b2:(i).frozen? ⟨w.heap.size+1,0,none⟩=false:=frozen_of_row _ _ _ _ _ ((o.out i E.out));have b3:(i).frozen? ⟨w.heap.size+1,1,none⟩=false:=frozen_of_row _ _ _ _ _ ((o.out i E.out));have b4:(i).frozen? ⟨w.heap.size+1,2,none⟩=false:=frozen_of_row _ _ _ _ _ ((o.out i E.out));have b5:(i).frozen? ⟨w.heap.size+1,3,none⟩=false:=frozen_of_row _ _ _ _ _ ((o.out i E.out));have b6:(i).frozen? ⟨w.heap.size+1,4,none⟩=false:=frozen_of_row _ _ _ _ _ ((o.out i E.out));have b7:(i).frozen? ⟨w.heap.size+1,5,none⟩=false:=frozen_of_row _ _ _ _ _ ((o.out i E.out))))
    refine bodyPost_ret (v:= .tuple #[pM L c Z S db N,.int .i64 0]) (by simp[results,Tryz.results12,go_sem,c0,c1,bv,bx,bz,b1,b2,b3,b4,b5,b6,b7]) rfl ⟨c9.out,λR a5 bf=>?_⟩;have ad:db≠w.heap.size+1:=by have:=f4.out;omega
    rw[bd.out]at a5 bf;obtain rfl:=(d8.out R i db N Z a5 d5.out T.out d4.out).1;refine⟨_,rfl,?_,?_⟩
    ·rw[bd.out];refine(d8.out _ _ db N Z a5 d5.out T.out ?_).2;exact aa.bP (aa.bP (aa.bP (aa.bP (aa.bP (aa.bP d4.out _ _ ad) _ _ ad) _ _ ad) _ _ ad) _ _ ad) _ _ ad
    ·have cp:Hid (Below w.heap.size w i):=b9.out.trans (E.out.mono u.out.2.2);exact((((((cp.out).setCell u.out.1 _).setCell u.out.1 _).setCell u.out.1 _).setCell u.out.1 _).setCell u.out.1 _).setCell u.out.1 _
   |false=>
    rw[hb]at be;have f5:=Lib.hid (dz.out.2 hb);clear cq cs hb ck
    go_wp2_with(first
     |(go_at_call 33;refine(dE.out _).mono ?_;rintro e bs ⟨rfl,J⟩;have a2:Hid (af (wr.alloc (bC L c)) bs):=J;have co:=Lib.hid ((a9.out.below hB.out).below (cH a2.out));clear J x y B D t e1 e2)
     |(go_at_call 32;refine(d7.out _ _ _ _ co.out).mono ?_;rintro e av ⟨em,rfl,a3,K⟩;obtain⟨en,Z,eq,rfl,ab⟩:=a3.parts;have Q:Hid (af (wr.alloc (bC L c)) av):=ae a2.out K;have T:Hid (Z=c2.length):=ab.hn;have cv:Hid (Below g.heap.size g av):=ae q.out (cH Q.out);clear a3 K ab;obtain⟨a0,a1⟩:=ch.out _ Q.out;obtain⟨⟨x,y,B⟩,D,t⟩:=P.out _ cv.out)
     |(go_at_call 34;rw[T.out];refine(be.out _).mono ?_;rw[<-T.out];rintro e bt ⟨rfl,ac⟩;have a4:Hid (af (wr.alloc (bC L c)) bt):=ae Q.out ac;clear ac a0 a1 x y B D t))
    exact⟨⟨j+1,by omega,by go_num,f5.out,ae hB.out (cH a4.out)⟩,by simp[intOf];omega⟩
  ·have er:Hid (j=1):=by show _=_;omega
   have g2:decide (j<1)=false:=by simp;omega
   have f6:Hid (fO a d b f=none):=by show _=_;rw[c6.out];have:=dp.out;rw[er.out,<-dd.out,List.take_length]at this;exact this
   have g3:¬j<1:=oO;have q:Hid (Below g.heap.size g wr):=ae da.out hB.out;clear ds ei;have c0:(wr).cell? ⟨w.heap.size+1,0,none⟩=some (.int .i64 0):=(o.out wr q.out).cell 0 _ rfl;have c1:(wr).cell? ⟨w.heap.size+1,1,none⟩=some (.bool false):=(o.out wr q.out).cell 1 _ rfl;have bv:(wr).cell? ⟨w.heap.size+1,2,none⟩=some (.int .i64 0):=(o.out wr q.out).cell 2 _ rfl;have bx:(wr).cell? ⟨w.heap.size+1,3,none⟩=some (.int .i64 0):=(o.out wr q.out).cell 3 _ rfl;have bz:(wr).cell? ⟨w.heap.size+1,4,none⟩=some (.int .i64 0):=(o.out wr q.out).cell 4 _ rfl;have b1:(wr).cell? ⟨w.heap.size+1,5,none⟩=some (.slice none 0 0):=(o.out wr q.out).cell 5 _ rfl;have b2:(wr).frozen? ⟨w.heap.size+1,0,none⟩=false:=frozen_of_row _ _ _ _ _ ((o.out wr q.out));have b3:(wr).frozen? ⟨w.heap.size+1,1,none⟩=false:=frozen_of_row _ _ _ _ _ ((o.out wr q.out));have b4:(wr).frozen? ⟨w.heap.size+1,2,none⟩=false:=frozen_of_row _ _ _ _ _ ((o.out wr q.out));have b5:(wr).frozen? ⟨w.heap.size+1,3,none⟩=false:=frozen_of_row _ _ _ _ _ ((o.out wr q.out));have b6:(wr).frozen? ⟨w.heap.size+1,4,none⟩=false:=frozen_of_row _ _ _ _ _ ((o.out wr q.out));have b7:(wr).frozen? ⟨w.heap.size+1,5,none⟩=false:=frozen_of_row _ _ _ _ _ ((o.out wr q.out));go_wp2;refine bodyPost_ret (v:= .tuple #[.agg aY,.int .i64 16]) (by simp[results,Tryz.results12,go_sem,c0,c1,bv,bx,bz,b1,b2,b3,b4,b5,b6,b7]) rfl ⟨c9.out,λR a5 bf=>?_⟩;rw[bd.out]at a5 bf;obtain rfl:=bf f6.out;refine⟨_,rfl,rfl,?_⟩;have cp:Hid (Below w.heap.size w wr):=b9.out.trans (q.out.mono u.out.2.2);exact((((((cp.out).setCell u.out.1 _).setCell u.out.1 _).setCell u.out.1 _).setCell u.out.1 _).setCell u.out.1 _).setCell u.out.1 _
theorem qf (A:Option Addr) (n d:Nat) (l:List UInt8) (c:Int) (a:Bool) (b:Int) (w:World) (hs:SR vU 0 w A n d l) (hl:l.length<=60\/4096<l.length):
 Calls Tryz.prog 12 #[.slice A n d,.agg #[.int .i64 c,.bool a,.int .i64 b]] w λe w'=>(jE l.length c a b=0->∃C,cj (bA l) C)/\nS w l (l4 l c a b) e w':=by
 have o:n<=9223372036854775807:=by have:=hs.hm;have:=hs.hc;unfold maxLen at*;omega
 have hn:n=l.length:=hs.hn;have r:jE l.length c a b=if 4096<l.length then 4 else if l.length=0 then 5 else if c≠0/\fH c a=false then 14 else if b<5\/90<b then 3 else 0:=rfl
 have y:∀k:Int,jE l.length c a b=k->k≠0->Calls Tryz.prog 12 #[.slice A n d,.agg #[.int .i64 c,.bool a,.int .i64 b]] w (nS w l (none,k))->Calls Tryz.prog 12 #[.slice A n d,.agg #[.int .i64 c,.bool a,.int .i64 b]] w λe w'=>(jE l.length c a b=0->∃C,cj (bA l) C)/\nS w l (l4 l c a b) e w':=by
  intro k i j B;refine B.mono λe w' h=>⟨λf=>absurd (i.symm.trans f) j,?_⟩;unfold l4;rw[i,if_pos j];exact h
 by_cases s:4096<l.length
 ·exact y 4 (by rw[r,if_pos s]) oD (Hw A n d l c a b w oO o)
 by_cases v:l.length=0
 ·have:n=0:=oO;subst this;exact y 5 (by rw[r,if_neg s,if_pos v]) oD (Hp A d l c a b w)
 by_cases m:c≠0/\fH c a=false
 ·exact y 14 (by rw[r,if_neg s,if_neg v,if_pos m]) oD (Fh A n d l c a b w oO oO m.1 m.2 o)
 have t:c≠0->fH c a=true:=λh=>by
  cases t:fH c a with
  |true=>rfl
  |false=>exact absurd ⟨h,t⟩ m
 by_cases z:b<5\/90<b
 ·refine y 3 (by rw[r,if_neg s,if_neg v,if_neg m,if_pos z]) oD ?_;by_cases f:c=0
  ·subst f;by_cases u:b<5
   ·exact ES A n d l a b w oO oO u o
   ·exact EY A n d l a b w oO oO u oO o
  ·by_cases u:b<5
   ·exact E5 A n d l c a b w oO oO f (t f) u o
   ·exact EZ A n d l c a b w oO oO f (t f) u oO o
 have x:jE l.length c a b=0:=by rw[r,if_neg s,if_neg v,if_neg m,if_neg z]
 obtain⟨q,rfl⟩:∃q:Nat,b=q:=⟨b.toNat,by omega⟩;by_cases f:c=0
 ·subst f;refine(DP A n d l a q w hs oO oO oO oO).mono ?_;rintro e w' ⟨i,j⟩;refine⟨λ_=>i,j _ (λp g=>?_) (λg=>?_)⟩
  ·unfold l4;rw[x,if_neg oD];show(match fO (bE l) q 0 a with|some p=>(some p,(0:Int))|none=>(none,16))=_;rw[g]
  ·unfold l4;rw[x,if_neg oD];show(match fO (bE l) q 0 a with|some p=>(some p,(0:Int))|none=>(none,16))=_;rw[g]
 ·obtain⟨k,rfl,D,E,k3⟩:=kg (t f);refine(By A n d l a k D E k3 q w hs oO oO oO oO).mono ?_;rintro e w' ⟨i,j⟩;refine⟨λ_=>i,j _ (λp g=>?_) (λg=>?_)⟩
  ·unfold l4;rw[x,if_neg oD];show(match fO (bE l) q k a with|some p=>(some p,(0:Int))|none=>(none,16))=_;rw[g]
  ·unfold l4;rw[x,if_neg oD];show(match fO (bE l) q k a with|some p=>(some p,(0:Int))|none=>(none,16))=_;rw[g]
theorem Nh (h:∃C,cj (bA [65]) C):l4 [65] 0 false 33=(some (1,true),0)/\(aI (bE [65]) (aq 1)).length=1:=by
 obtain⟨C,a⟩:=h;have b:(bE [65]).length=5:=by
  rw[oz oD a,r7 oD a];exact Nj a
 obtain⟨e,e1,e2,e3,e4,e5,e6,e7⟩:=kM (bE [65]) 6 oO oO oO;have c:(aI (bE [65]) 6).length=1:=by rw[b]at e4 e5;omega
 refine⟨?_,c⟩;have d:fO (bE [65]) 33 0 false=some (1,true):=by
  have f:jG (bE [65]) 33 (1,true)=true:=by
   unfold jG;show vL 1 true (aI (bE [65]) 6).length _ 33=true;rw[c,b]
   decide
  show((1,true)::_:List (Nat×Bool)).find? _=_;rw[List.find?_cons,f]
 show(match fO (bE [65]) 33 0 false with|some p=>(some p,(0:Int))|none=>(none,16))=_;rw[d]
theorem MR:(pw 1 true).length=104/\(pH 1 true).length=28/\(pw 1 true).getD 3 (0,0)=(1,1)/\(pH 1 true).getD 0 (0,0)=(4,2)/\rS 1 true=0:=⟨by kernel_rfl,by kernel_rfl,by kernel_rfl,by kernel_rfl,by kernel_rfl⟩
theorem pd (w:World):Calls Tryz.prog 11 #[] w λe w'=>e= .returned (.bool true)/\Below w.heap.size w w':=by
 have Y:Hid (∀W,Calls Tryz.prog 13 #[.int .i64 1,.bool true] W λe w'=>e= .returned (.tuple #[.int .i64 15,.int .i64 0])/\Below W.heap.size W w'):=λW=>wB 1 true W;have Z:Hid (∀W,Calls Tryz.prog 13 #[.int .i64 5,.bool false] W λe w'=>e= .returned (.tuple #[.int .i64 37,.int .i64 0])/\Below W.heap.size W w'):=λW=>wB 5 false W;have ab:Hid (∀W,Calls Tryz.prog 13 #[.int .i64 32,.bool false] W λe w'=>e= .returned (.tuple #[.int .i64 151,.int .i64 0])/\Below W.heap.size W w'):=λW=>wB 32 false W;have ac:Hid (∀W,Calls Tryz.prog 16 #[.int .i64 1,.bool true] W λe w'=>e= .returned (.tuple #[.int .i64 6,.int .i64 17,.int .i64 0])/\Below W.heap.size W w'):=λW=>oU 1 true W;have ad:Hid (∀W,Calls Tryz.prog 16 #[.int .i64 32,.bool false] W λe w'=>e= .returned (.tuple #[.int .i64 12,.int .i64 1664,.int .i64 0])/\Below W.heap.size W w'):=λW=>oU 32 false W;have G:Hid (∀W,Calls Tryz.prog 15 #[.int .i64 1,.bool true] W λe w'=>∃g b c a i m,e= .returned (.tuple #[.slice (some ⟨g,b,none⟩) 104 c,.slice (some ⟨a,i,none⟩) 28 m,.int .i64 0])/\Below W.heap.size W w'/\Hid (g<w'.heap.size/\a<w'.heap.size/\w'.cell? ⟨g,b+6,none⟩=some (.int .i64 1)/\w'.cell? ⟨g,b+7,none⟩=some (.int .i64 1)/\w'.cell? ⟨a,i,none⟩=some (.int .i64 4)/\w'.cell? ⟨a,i+1,none⟩=some (.int .i64 2))):=by
  show∀W,_;intro W;refine(Cd 1 true W).mono ?_;rintro e w' ⟨v,u,rfl,⟨A,c,rfl,-,-,s⟩,⟨a6,m,rfl,-,-,H⟩,hb⟩;obtain⟨p1,p2,J,K,L⟩:=MR;obtain⟨g,b,rfl,hg,hc⟩:=s (by rw[p1];omega);obtain⟨a,i,rfl,al,am⟩:=H (by rw[p2];omega);have o:=hc 3 (by rw[p1];omega);have q:=am 0 (by rw[p2];omega);rw[J]at o;rw[K]at q;refine⟨g,b,c,a,i,m,by rw[p1,p2,L],hb,hg,al,o.1,o.2,?_,?_⟩
  ·have:=q.1;rw[Nat.zero_mul,Nat.add_zero]at this;exact this
  ·have:=q.2;rw[Nat.zero_mul,Nat.add_zero]at this;exact this
 have ap:Hid (∀W:World,Calls Tryz.prog 12 #[.slice (some ⟨W.heap.size,0,none⟩) 1 1,.agg #[.int .i64 0,.bool false,.int .i64 33]] (W.alloc (.cells #[.int .u8 65] 5 (1,2))) λe w'=>∃A N k,e= .returned (.tuple #[.agg #[.int .i64 1,.bool true,.int .i64 1,.int .i64 15,.int .i64 15,.slice A N k],.int .i64 0])/\Below W.heap.size W w'):=by
  show∀W:World,_;intro W;have hs:SR vU 0 (W.alloc (.cells #[.int .u8 65] 5 (1,2))) (some ⟨W.heap.size,0,none⟩) 1 1 [65]:=SR.NN (f:=vU) (d:=0) W [65] 5 (1,2) 1 rfl oM;refine(qf (some ⟨W.heap.size,0,none⟩) 1 1 [65] 0 false 33 _ hs (.inl oD)).mono ?_;rintro e w' ⟨s,v,rfl,t,hb⟩;obtain⟨M,O⟩:=Nh (s oD);rw[M]at t⊢;obtain⟨A,N,k,-,rfl,-⟩:=t;rw[O];exact⟨A,N,k,rfl,cH hb⟩
 have a7:=λ(w:World) (C:Array Value) (n c:Nat)=>Lib.run_convert_bytes_const (P:=Tryz.prog) w 22 5 C n c Tryz.underlying22 Tryz.underlying5;go_enter Tryz.func11,Tryz.ntmps11
 go_wp2_with(first
  |(go_at_call 13;(with_reducible show Calls _ _ #[.int .i64 1,_] _ _);refine(Y.out _).mono ?_;rintro e Q ⟨rfl,x⟩;have av:Hid (Below w.heap.size w Q):=x;clear x)
  |(go_at_call 13;(with_reducible show Calls _ _ #[.int .i64 5,_] _ _);refine(Z.out _).mono ?_;rintro e S ⟨rfl,y⟩;have a0:Hid (Below w.heap.size w S):=ae av.out y;clear y)
  |(go_at_call 13;(with_reducible show Calls _ _ #[.int .i64 32,_] _ _);refine(ab.out _).mono ?_;rintro e T ⟨rfl,z⟩;have a1:Hid (Below w.heap.size w T):=ae a0.out z;clear z)
  |(go_at_call 16;(with_reducible show Calls _ _ #[.int .i64 1,_] _ _);refine(ac.out _).mono ?_;rintro e U ⟨rfl,B⟩;have a2:Hid (Below w.heap.size w U):=ae a1.out B;clear B)
  |(go_at_call 16;(with_reducible show Calls _ _ #[.int .i64 32,_] _ _);refine(ad.out _).mono ?_;rintro e V ⟨rfl,D⟩;have a3:Hid (Below w.heap.size w V):=ae a2.out D;clear D)
  |(go_at_call 15;refine(G.out _).mono ?_;rintro e r ⟨g,b,c,a,i,m,rfl,E,j⟩;have a4:Hid (Below w.heap.size w r):=ae a3.out E;clear E)
  |(go_at_call 12;refine(ap.out r).mono ?_;rintro e X ⟨A,N,k,rfl,F⟩;have a5:=Lib.hid F;have l:Hid (Below r.heap.size r (X.alloc (.cells #[.int .i64 1,.bool true,.int .i64 1,.int .i64 15,.int .i64 15,.slice A N k] 30))):=ah a5.out _;have o:=(l.out.cell (p:=⟨g,b+6,none⟩) j.out.1).trans j.out.2.2.1;have q:=(l.out.cell (p:=⟨g,b+7,none⟩) j.out.1).trans j.out.2.2.2.1;have a8:=(l.out.cell (p:=⟨a,i,none⟩) j.out.2.1).trans j.out.2.2.2.2.1;have a9:=(l.out.cell (p:=⟨a,i+1,none⟩) j.out.2.1).trans j.out.2.2.2.2.2;clear F))
 go_ret;exact⟨rfl,ae a4.out l.out⟩
theorem zo {l:List UInt8} {b:Int} {d:Bool} {g:Int} {L:Nat} {c:Bool} {k:Int} (h:l4 l b d g=(some (L,c),k)):k=0/\jE l.length b d g=0/\jG (bE l) g.toNat (L,c)=true/\1<=L/\L<=32/\(c=true->L<=4):=by
 unfold l4 at h;by_cases a:jE l.length b d g=0
 ·rw[a,if_neg oD]at h;cases j:fO (bE l) g.toNat b.toNat d with
  |none=>rw[j]at h;injection h with f _;cases f
  |some p=>
   rw[j]at h;injection h with f r;injection f with f;subst f;have n:(xU b.toNat d).find? (jG (bE l) g.toNat)=some (L,c):=j;refine⟨r.symm,a,List.find?_some n,?_⟩;have i:=List.mem_of_find?_eq_some n;unfold xU at i;by_cases o:b.toNat=0
   ·rw[if_pos o]at i;exact D7 _ _ i
   ·rw[if_neg o,List.mem_singleton]at i;injection i with e1 e2;have m:fH b d=true:=by
     cases m:fH b d with
     |true=>rfl
     |false=>
      exfalso;unfold jE at a;split at a
      ·exact absurd a oD
      split at a
      ·exact absurd a oD
      rw[if_pos ⟨by omega,m⟩]at a;exact absurd a oD
    obtain⟨q,e,t,u,s⟩:=kg m;subst e1 e2;exact⟨by omega,by omega,λh=>by have:=s h;omega⟩
 ·rw[if_pos a]at h;injection h with f _;cases f
theorem GF {l:List UInt8} {a:Int} {b:Bool} {e:Int} {k:Int} (h:l4 l a b e=(none,k)):¬k=0:=by
 unfold l4 at h;by_cases c:jE l.length a b e=0
 ·rw[c,if_neg oD]at h;cases f:fO (bE l) e.toNat a.toNat b with
  |none=>rw[f]at h;injection h with _ d;rw[<-d];decide
  |some p=>rw[f]at h;injection h with g _;cases g
 ·rw[if_pos c]at h;injection h with _ d;rw[<-d];exact c
theorem C5 {l:List UInt8} (hl:l.length<=60) {C:Nat->Nat->Nat} (i:cj (bA l) C) {m:Int} {n:Bool} {q:Int} {L:Nat} {c:Bool} {k:Int} (h:l4 l m n q=(some (L,c),k)):
 1<=(bE l).length/\1<=L/\L<=32/\(c=true->L<=4)/\(aI (bE l) (aq L)).length<=gK c/\(aI (bE l) (aq L)).length<aD L c/\1<=(aI (bE l) (aq L)).length:=by
 obtain⟨-,b,j,d,f,o⟩:=zo h;have a:1<=l.length:=by
  unfold jE at b;rcases Nat.eq_zero_or_pos l.length with a|a
  ·rw[if_neg oO,if_pos a]at b;exact absurd b oD
  ·exact a
 have p:=vO oO a i;obtain⟨r,s,t,u⟩:=mY hl i L rfl;have g:1<=(aI (bE l) (aq L)).length:=by
  have hs:=eQ L;obtain⟨e,e1,e2,e3,e4,e5,e6,e7⟩:=kM (bE l) (aq L) oO oO oO;rcases Nat.eq_zero_or_pos (aI (bE l) (aq L)).length with a|a
  ·rw[a]at e4;omega
  ·exact a
 exact⟨p,d,f,o,(pJ j d f g).1,(pJ j d f g).2,g⟩
end
end Go.Proofs.YtmnlkganmgcpbaaGreatDoor
