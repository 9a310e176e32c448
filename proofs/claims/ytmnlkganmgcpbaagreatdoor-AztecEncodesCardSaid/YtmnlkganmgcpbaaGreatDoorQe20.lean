import Derived.Test.YtmnlkganmgcpbaaGreatDoorQe19
set_option maxRecDepth 100000
set_option maxHeartbeats 4000000
set_option linter.unusedVariables false
set_option linter.unusedSectionVars false
set_option linter.unusedSimpArgs false
namespace Go.Proofs.YtmnlkganmgcpbaaGreatDoor
section
open Go.RowKit
abbrev Sy:=Nat×Bool
def jf (p:Sy):List Value:=[.int .i64 (p.1:Int),.bool p.2]
theorem J3 (p:Sy):∀v∈jf p,v.oneCell'=true:=by
 intro v a;simp only[jf,List.mem_cons,List.not_mem_nil,or_false]at a;rcases a with rfl|rfl<;>rfl
theorem II (l:List Sy):∀v∈l.flatMap jf,v.oneCell'=true:=by
 intro v a;obtain⟨p,-,b⟩:=List.mem_flatMap.1 a;exact J3 p v b
theorem ss (l:List Sy):(l.flatMap jf).length=l.length* 2:=by
 induction l with
 |nil=>rfl
 |cons p l a=>simp only[List.flatMap_cons,List.length_append,a,List.length_cons];show 2+_=_;omega
theorem ye (l:List Sy) (i:Nat) (a:i<l.length):(l.flatMap jf)[2* i]?=some (.int .i64 ((l.getD i (0,false)).1:Int))/\(l.flatMap jf)[2* i+1]?=some (.bool (l.getD i (0,false)).2):=by
 induction l generalizing i with
 |nil=>simp at a
 |cons p l b=>
  cases i with
  |zero=>exact⟨rfl,rfl⟩
  |succ i=>
   have h:=b i (by simpa using a);simp only[List.flatMap_cons,jf];rw[show 2* (i+1)=2* i+2 from by omega];simp only[List.cons_append,List.nil_append,List.getElem?_cons_succ,List.getD_cons_succ];exact h
theorem Gp:(Tryz.prog.info? 60).map (λi=>(i.zero,i.size,i.bytes))=some (some (.agg #[.int .i64 0,.bool false]),2,16):=oK
def KC (w:World) (A:Option Addr) (xs:List Sy):Prop:=0<xs.length->∃g a,A=some ⟨g,a,none⟩/\g<w.heap.size/\∀j,j<xs.length->w.cell? ⟨g,a+j* 2,none⟩=some (.int .i64 ((xs.getD j (0,false)).1:Int))/\w.cell? ⟨g,a+j* 2+1,none⟩=some (.bool (xs.getD j (0,false)).2)
def SY (w:World) (v:Value) (xs:List Sy):Prop:=∃A c,v= .slice A xs.length c/\xs.length<=c/\c<=maxLen/\KC w A xs
theorem SY.dD (w:World):SY w (.slice none 0 0) []:=⟨none,0,rfl,by simp,by simp,λh=>absurd h oS⟩
theorem SY.bU {W:World} {base:Nat} {e:TypeId} {n:Nat} {v:Value} {xs:List Sy} (h:W.ownsRow base e 2 v n (xs.flatMap jf)):SY W v xs:=by
 have hl:xs.length=n:=by have:=h.1;rw[ss]at this;omega
 rcases h.2 with⟨rfl,rfl⟩|⟨g,cap,d,rfl,hb,hg,f,rm,_⟩
 ·have:xs=[]:=List.eq_nil_of_length_eq_zero hl;subst this;exact SY.dD _
 ·refine⟨_,cap,by rw[hl],by omega,rm,λhn=>⟨g,0,rfl,aw hg,λj c=>?_⟩⟩;have a:=ye xs j c;have e:0+j* 2=2* j:=oO;have c1:=h.cells (g:=g) rfl (2* j) _ a.1;have b:=h.cells (g:=g) rfl (2* j+1) _ a.2;rw[add_plain,Nat.zero_add]at c1 b;rw[e];exact⟨c1,b⟩
structure lR (w wr:World) (v:Value) (l:List Sy):Prop where
 B:af w wr
 O:wr.ownsRow w.heap.size 60 2 v l.length (l.flatMap jf)
theorem lR.start (w:World):lR w w (.slice none 0 0) []:=⟨Below.refl _ _,World.ownsRow_nil _ _ _ _⟩
theorem lR.sp {w wr:World} {v:Value} {l:List Sy} (h:lR w wr v l):SY wr v l:=SY.bU h.O
theorem Dr {W:World} {base:Nat} {v:Value} {n:Nat} {l:List Sy} (d:TypeId) (f:W.ownsRow base 60 2 v n (l.flatMap jf)) (w:base<=W.heap.size) (b:Addr) (m c:Nat) (ys:List Sy) (g:m=ys.length)
 (hc:∀j u,(ys.flatMap jf)[j]?=some u->W.cell? (b.add j)=some u) (hl:n+m<=1000000):
 ∃a w',(Builtin.append_ #[62,62] d #[v,.slice (some b) m c]).run Tryz.prog W= .ok a w'/\w'.ownsRow base 60 2 a (n+m) ((l++ys).flatMap jf)/\W.grownBy w' v.ownBlock/\(a.ownBlock=v.ownBlock\/a.ownBlock=some W.heap.size):=by
 obtain⟨i,k,q,r,s⟩:=info_parts Gp;obtain⟨a,w',t,e,o,_,p⟩:=run_append_own_at (P:=Tryz.prog) W base 62 d 60 i _ 2 16 Tryz.underlying62 k q r s rfl oO v n _ f b m c (ys.flatMap jf) (by rw[ss,g]) hc (II ys) oM oO w;rw[<-List.flatMap_append]at e;exact⟨a,w',t,e,o,p⟩
theorem mr {f:Array Oper} {g:List Oper} {d:Oper} {a:Act} {Q:Exit->Act->World->Prop} {W:World} {base:Nat} {v:Value} {n:Nat} {l:List Sy} (i:W.ownsRow base 60 2 v n (l.flatMap jf)) (B:base<=W.heap.size) (z:d.guard=none) (s y:Operand)
 (k:d.op= .call {callee:= .builtin .append,args:=#[s,y],argTypes:=#[62,62]}) (hs:a.eval s=v) (e:Addr) (m c:Nat) (ys:List Sy) (o:a.eval y= .slice (some e) m c) (p:m=ys.length)
 (hc:∀j u,(ys.flatMap jf)[j]?=some u->W.cell? (e.add j)=some u) (hl:n+m<=1000000)
 (q:∀b w',w'.ownsRow base 60 2 b (n+m) ((l++ys).flatMap jf)->W.grownBy w' v.ownBlock->(b.ownBlock=v.ownBlock\/b.ownBlock=some W.heap.size)->wpList Tryz.prog f Q g (a.put d.dst b) w'):wpList Tryz.prog f Q (d::g) a W:=by
 refine wpList_plain z λK r=>?_;obtain⟨b,w',A,t,w,x⟩:=Dr d.type i B e m c ys p hc hl;unfold Oper.wp execOp;simp only[k,resolve,invoke,builtin,Sem.run_bind,Sem.run_pure,Result.andThen_ok,List.map_toArray,List.map_cons,List.map_nil,hs,o,A];exact r _ _ (q b w' t w x)
theorem lR.grow {w wr W w1:World} {v v1:Value} {l ys:List Sy} (h:lR w wr v l) (a:Below wr.heap.size wr W) (c:w1.ownsRow w.heap.size 60 2 v1 (l.length+ys.length) ((l++ys).flatMap jf)) (hg:W.grownBy w1 v.ownBlock):lR w w1 v1 (l++ys):=by
 refine⟨(ab h.B a).grown hg (by have:=(ab h.B a).size;exact this) (λk b=>(h.O.lt k b).1),?_⟩;rw[List.length_append];exact c
theorem rZ (W:World) (ys:List Sy) (b:TypeId):∀j u,(ys.flatMap jf)[j]?=some u->(W.alloc (.cells (ys.flatMap jf).toArray b)).cell? ((⟨W.heap.size,0,none⟩:Addr).add j)=some u:=by
 intro j u a;have c:j<(ys.flatMap jf).length:=by
  rcases Nat.lt_or_ge j (ys.flatMap jf).length with h|h
  ·exact h
  ·rw[List.getElem?_eq_none h]at a;cases a
 rw[add_plain,Nat.zero_add];have:=(ai.new W (ys.flatMap jf).toArray b W.heap.size rfl).2 j (by simpa using c);rw[this];simp only[List.toList_toArray,List.getD,a,Option.getD_some]
theorem SY.lit (W:World) (ys:List Sy) (a:TypeId) (b n:Nat) (hb:b=W.heap.size) (hn:n=ys.length) (e:n<=maxLen):SY (W.alloc (.cells (ys.flatMap jf).toArray a)) (.slice (some ⟨b,0,none⟩) n n) ys:=by
 subst hb hn;refine⟨_,_,rfl,Nat.le_refl _,e,λ_=>⟨_,0,rfl,by simp,λj f=>?_⟩⟩;have h:=ye ys j f;have c:=rZ W ys a _ _ h.1;have d:=rZ W ys a _ _ h.2;rw[add_plain,Nat.zero_add]at c d;rw[Nat.zero_add,Nat.mul_comm];exact⟨c,d⟩
def mq (j:Nat):List Sy:=(List.range j).map λi=>(i+1,true)
def qP (j:Nat):List Sy:=(List.range j).map λi=>(i+4,false)
theorem H9 (j:Nat):mq (j+1)=mq j++[(j+1,true)]:=by unfold mq;rw[List.range_succ,List.map_append];rfl
theorem Hu (j:Nat):qP (j+1)=qP j++[(j+4,false)]:=by unfold qP;rw[List.range_succ,List.map_append];rfl
theorem ym (c:Bool):qm c=mq 4++(if c=true then[]else qP 29):=rfl
theorem BN (c:Bool) (w:World):Calls Tryz.prog 31 #[.bool c] w λe w'=>∃v,e= .returned v/\SY w' v (qm c)/\Below w.heap.size w w':=by
 obtain⟨y,z,A,B,C⟩:=info_parts Gp;go_enter Tryz.func31,Tryz.ntmps31;go_wp2;go_loopw [3,6] (λk b wr=>∃j:Nat,j<=4/\b= .int .i64 j/\Hid (lR w wr k (mq j))) (λ_ b _=>4-(intOf b).toNat)
 case atStart=>exact⟨0,by omega,rfl,lR.start _⟩
 case round=>
  obtain⟨j,m,rfl,a⟩:=hrel;by_cases o:j<4
  ·have p:Hid ((mq j).length<=100):=by show _<=_;unfold mq;simp;omega
   have q:=Lib.hid (H9 j);generalize mq j=l at*;have D:(j:Int)<4:=oO;go_wp2_with((with_reducible show wpList _ _ _ (⟨_,Op.call ⟨Callee.builtin Builtin.append,_,_⟩,_,_,_,_⟩::_) _ _);(refine mr (base:=w.heap.size) (l:=l) (ah a.out.O (ar _ _)) (by have:=a.out.B.size;simp;omega) rfl _ _ rfl rfl ⟨wr.heap.size,0,none⟩ 1 1 [(j+1,true)] rfl rfl (rZ wr [(j+1,true)] _) (by have:=p.out;omega) ?_;intro v1 w1 f hg _;have n:Hid (lR w w1 v1 (l++[(j+1,true)])):=a.out.grow (ar _ _) f hg;clear f hg))
   exact⟨⟨j+1,by omega,by go_num,by show lR _ _ _ _;rw[q.out];exact n.out⟩,by simp[intOf];omega⟩
  ·have t:Hid (j=4):=by show _=_;omega
   have E:decide (j<4)=false:=by simp;omega
   have F:4<=j:=oO;have g:Hid (lR w wr u3 (mq 4)):=by show lR _ _ _ _;rw[<-t.out];exact a.out
   clear a o m;cases c with
   |true=>
    go_wp2;go_ret;exact⟨_,rfl,by rw[ym,if_pos rfl,List.append_nil];exact g.out.sp,g.out.B⟩
   |false=>
    have r:Hid (lR w wr u3 (mq 4++qP 0)):=g.out;clear g;go_wp2;go_loopw [3,5] (λk b wr=>∃j:Nat,j<=29/\b= .int .i64 ((j+4:Nat):Int)/\Hid (lR w wr k (mq 4++qP j))) (λ_ b _=>33-(intOf b).toNat)
    case atStart=>exact⟨0,by omega,rfl,r.out⟩
    case round=>
     clear r;obtain⟨j,m,rfl,a⟩:=hrel;obtain⟨i,d⟩:∃i,i=j+4:=⟨_,rfl⟩;rw[<-d];by_cases o:j<29
     ·have p:Hid ((mq 4++qP j).length<=100):=by show _<=_;unfold mq qP;simp;omega
      have q:Hid (mq 4++qP (j+1)=(mq 4++qP j)++[(i,false)]):=by show _=_;rw[Hu,d,List.append_assoc]
      generalize mq 4++qP j=l at*;have G:(i:Int)<=32:=oO;have s:=Lib.hid d;clear d;go_wp2_with((with_reducible show wpList _ _ _ (⟨_,Op.call ⟨Callee.builtin Builtin.append,_,_⟩,_,_,_,_⟩::_) _ _);(refine mr (base:=w.heap.size) (l:=l) (ah a.out.O (ar _ _)) (by have:=a.out.B.size;simp;omega) rfl _ _ rfl rfl ⟨wr.heap.size,0,none⟩ 1 1 [(i,false)] rfl rfl (rZ wr [(i,false)] _) (by have:=p.out;omega) ?_;intro v1 w1 f hg _;have n:Hid (lR w w1 v1 (l++[(i,false)])):=a.out.grow (ar _ _) f hg;clear f hg))
      exact⟨⟨j+1,by omega,by show Value.int _ _=_;congr 1;have:=s.out;omega,by show lR _ _ _ _;rw[q.out];exact n.out⟩,by have:=s.out;simp[intOf];omega⟩
     ·have u:i=33:=oO;have x:j=29:=oO;subst u x;clear o m d;go_wp2;go_ret;exact⟨_,rfl,by rw[ym,if_neg oD];exact a.out.sp,a.out.B⟩
theorem zi (L:Nat) (c:Bool) (k size g:Nat) (w:World) (t:L<=32) (O:k<=100000) (hs:size<=100000) (P:g<=100):Calls Tryz.prog 34 #[cy L c,.int .i64 k,.int .i64 size,.int .i64 g] w λe w'=>e= .returned (.bool (nG L c k size g))/\Below w.heap.size w w':=by
 have a:=ep w L c;have B:Hid (∀W,Calls Tryz.prog 57 #[.bool c] W λe w'=>e= .returned (.int .i64 ((eM c:Nat):Int))/\w'=W):=λW=>rr c W;have C:Hid (∀W,Calls Tryz.prog 33 #[cy L c] W λe w'=>e= .returned (.int .i64 ((aq L:Nat):Int))/\Below W.heap.size W w'):=λW=>lB L c W t;have V:Hid (∀W,Calls Tryz.prog 44 #[cy L c] W λe w'=>e= .returned (.int .i64 ((aQ L c:Nat):Int))/\Below W.heap.size W w'):=λW=>qR L c W t;have v:Hid (nG L c k size g=(decide (k<=eM c)&&decide (aq L* k+size* g/100+11<=aq L* aQ L c))):=rfl;have X:eM c<=2048:=by cases c<;>decide
 have x:aq L<=12:=by rcases eK L with h|h|h|h<;>omega
 have D:=lD (c:=c) t;have j:Hid (af (w.alloc (bM L c)) (w.alloc (bM L c)).drew):=ak (Below.refl _ _);have J:Hid (∀W,af (w.alloc (bM L c)) W->Below w.heap.size w W):=λW u=>cN u;generalize eM c=l at*;generalize aq L=z at*;generalize aQ L c=A at*;obtain⟨p1,p⟩:∃p1,p1=z* k:=⟨_,rfl⟩;obtain⟨p2,q⟩:∃p2,p2=size* g:=⟨_,rfl⟩;obtain⟨f,y⟩:∃f,f=p2/100:=⟨_,rfl⟩;obtain⟨d,r⟩:∃d,d=z* A:=⟨_,rfl⟩;have ac:p1<=1200000:=by rw[p];exact Nat.mul_le_mul x O
 have ad:p2<=10000000:=by rw[q];exact Nat.mul_le_mul hs P
 have al:d<=48000:=by rw[r];exact Nat.mul_le_mul x D
 have am:f<=100000:=oO;have ap:(z:Int)* (k:Int)=(p1:Int):=by rw[p];simp
 have av:(size:Int)* (g:Int)=(p2:Int):=by rw[q];simp
 have a0:(p2:Int)/100=(f:Int):=by rw[y];simp
 have a1:(z:Int)* (A:Int)=(d:Int):=by rw[r];simp
 have w1:IntKind.i64.wrap (p1:Int)=(p1:Int):=aJ _ oO oO;have w2:IntKind.i64.wrap (p2:Int)=(p2:Int):=aJ _ oO oO;have a2:IntKind.i64.wrap (f:Int)=(f:Int):=aJ _ oO oO;have a3:IntKind.i64.wrap (d:Int)=(d:Int):=aJ _ oO oO;obtain⟨o,Y⟩:∃o,o=p1+f:=⟨_,rfl⟩;obtain⟨i,E⟩:∃i,i=p1+f+11:=⟨_,rfl⟩;have a4:IntKind.i64.wrap ((p1:Int)+(f:Int))=(o:Int):=by rw[aJ _ oO oO];omega
 have a5:IntKind.i64.wrap ((o:Int)+11)=(i:Int):=by rw[aJ _ oO oO];omega
 rw[<-p,<-q,<-y,<-r,<-E]at v;clear p q y r Y E X x D;by_cases m:k<=l
 ·have Z:(k:Int)<=(l:Int):=oO;have s:Hid (nG L c k size g=decide (i<=d)):=by show _=_;rw[v.out,decide_eq_true m,Bool.true_and]
  obtain⟨b,hb⟩:∃b,b=decide (i<=d):=⟨_,rfl⟩;have a6:decide ((i:Int)<=(d:Int))=b:=by rw[hb,decide_eq_decide];omega
  rw[<-hb]at s;have a7:decide (i<=d)=b:=hb.symm;clear hb m;go_enter Tryz.func34,Tryz.ntmps34;go_wp2;refine yO (af (w.alloc (bM L c))) [1,2,3,0,4,0,5,6,7,9,11,12,13,14,17,19,0,8,0,10,15,16,0,18,20,0,21,22,23,24] j.out ?_
  repeat first|refine zO a.out ?_|refine zX a.out ?_
  refine zZ ?_;refine(B.out _).mono ?_;rintro e Q ⟨rfl,n⟩;rw[n];clear n;refine⟨_,rfl,j.out,jO ?_⟩
  repeat first|refine zO a.out ?_|refine zX a.out ?_
  refine zZ ?_;refine(C.out _).mono ?_;rintro e S ⟨rfl,K⟩;have F:Hid (af (w.alloc (bM L c)) S):=ab j.out K;clear K;refine⟨_,rfl,F.out,jO ?_⟩
  repeat first|refine zO a.out ?_|refine zX a.out ?_
  refine zZ ?_;refine(C.out _).mono ?_;rintro e T ⟨rfl,M⟩;have G:Hid (af (w.alloc (bM L c)) T):=ab F.out M;clear M;refine⟨_,rfl,G.out,jO ?_⟩
  repeat first|refine zO a.out ?_|refine zX a.out ?_
  refine zZ ?_;refine(V.out _).mono ?_;rintro e U ⟨rfl,N⟩;have H:Hid (af (w.alloc (bM L c)) U):=ab G.out N;clear N;refine⟨_,rfl,H.out,jO ?_⟩
  repeat first|refine zO a.out ?_|refine zX a.out ?_
  refine ag ?_;go_wp2;go_ret;exact⟨by rw[s.out];rfl,J.out _ H.out⟩
 ·have Z:¬(k:Int)<=(l:Int):=oO;have a8:decide (k<=l)=false:=decide_eq_false m;have s:Hid (nG L c k size g=false):=by show _=_;rw[v.out,decide_eq_false m,Bool.false_and]
  have a9:l<k:=oO;clear m;go_enter Tryz.func34,Tryz.ntmps34;go_wp2;refine yO (af (w.alloc (bM L c))) [1,2,3,0,4,0,5,6,7,9,11,12,13,14,17,19,0,8,0,10,15,16,0,18,20,0,21,22,23,24] j.out ?_
  repeat first|refine zO a.out ?_|refine zX a.out ?_
  refine zZ ?_;refine(B.out _).mono ?_;rintro e Q ⟨rfl,n⟩;rw[n];clear n;refine⟨_,rfl,j.out,jO ?_⟩
  repeat
   first
   |(refine' tt rfl ?_;simp only[yQ,yU,yX,yY])
   |(refine' qS rfl j.out ?_;simp only[yQ,yU,yX,yY])
   |(refine' eN rfl (λW u=>?_) ?_;rotate_left;(· have bb:=a.out W u;go_simp;rfl);simp only[yQ,yU,yX,yY])
  refine ag ?_;go_wp2;go_ret;exact⟨by rw[s.out];rfl,J.out _ j.out⟩
theorem SG.rd {w:World} {v:Value} {l:List Nat} (h:SG vN 0 w v l):∃A n c,v= .slice A n c/\n=l.length/\SR vN 0 w A n c l/\RD w A (zl l):=by
 obtain⟨A,n,c,rfl,hs⟩:=h.parts;obtain⟨A',c',e,-,-,a⟩:=bh.I1 h;injection e with e1 e2 e3;exact⟨A,n,c,rfl,hs.hn,hs,by rw[e1];exact a⟩
theorem bh.Eo {w:World} {v:Value} {l:List Nat} (h:bh w v (zl l)):∃A n c,v= .slice A n c/\n=l.length/\SR vN 0 w A n c l/\RD w A (zl l):=SG.rd (bh.K2 h)
theorem vT (a b:Nat) (c:Bool):(aH a (iE c)++aH b (iY c)).length=fV c* 4:=by
 rw[List.length_append,bm,bm];cases c<;>rfl
theorem GO (L k:Nat) (c:Bool) (w:World) (M:1<=L) (N:L<=32) (hc:c=true->L<=4) (b7:1<=k) (O:k<=eM c):Calls Tryz.prog 23 #[.int .i64 L,.int .i64 k,.bool c] w (RT vB false w (gK L c k,0)):=by
 have b8:=ep w L c;have ad:Hid (∀W,Calls Tryz.prog 29 #[cy L c] W λe w'=>e= .returned (.bool true)/\Below W.heap.size W w'):=λW=>by rw[<-exB_of M N hc];exact gw L c W
 have al:Hid (∀W,Calls Tryz.prog 57 #[.bool c] W λe w'=>e= .returned (.int .i64 ((eM c:Nat):Int))/\w'=W):=λW=>rr c W;have am:Hid (∀W,Calls Tryz.prog 58 #[.bool c] W λe w'=>e= .returned (.tuple #[.int .i64 ((iE c:Nat):Int),.int .i64 ((iY c:Nat):Int),.int .i64 ((fF c:Nat):Int)])/\w'=W):=λW=>xp c W;obtain⟨B,hB⟩:∃B,B=aH (L-1) (iE c)++aH (k-1) (iY c):=⟨_,rfl⟩;have n:B.length=fV c* 4:=by rw[hB];exact vT _ _ _
 have ap:fV c<=4:=by cases c<;>decide
 have b3:1<=fV c:=by cases c<;>decide
 have i:=gn B 4 (fV c);have l:=vX B 4 (fV c);have J:gK L c k=cT (eF 16 19 (fF c) 1 (bN B 4 (fV c))) 4:=by rw[z8,hB]
 have j:=I7 c;have av:fF c<=6:=by cases c<;>decide
 have b4:fV c+fF c<=15:=by cases c<;>decide
 have f:=rP (FI IN) (par:=fF c) (first:=1) l;change mC 16 19 (fF c) 1 _ (eF 16 19 (fF c) 1 (bN B 4 (fV c)))at f;have o:=f.ln;have K:=f.lt;rw[i]at o;have c5:k<=2048:=by
  have:eM c<=2048:=by cases c<;>decide
  omega
 have c6:iE c<=11/\iY c<=11:=by cases c<;>decide
 obtain⟨a,p⟩:∃a,a=L-1:=⟨_,rfl⟩;obtain⟨d,q⟩:∃d,d=k-1:=⟨_,rfl⟩;have c7:(L:Int)-1=(a:Int):=oO;have c8:(k:Int)-1=(d:Int):=oO;rw[<-p,<-q]at hB;have a0:Hid (∀W,Calls Tryz.prog 61 #[.int .i64 4,.int .i64 ((fF c:Nat):Int)] W λe w'=>e= .returned (.tuple #[cQ 2 16 19 (fF c) 1,.int .i64 0])/\Below W.heap.size W w'):=λW=>wi (fF c) W j;have b5:Hid (∀W,Calls Tryz.prog 59 #[.slice none 0 0,.int .i64 a,.int .i64 ((iE c:Nat):Int)] W (RT vB false W (aH a (iE c),0))):=λW=>sI none 0 0 [] a (iE c) W oO oO oO ⟨rfl,Nat.le_refl _,Nat.zero_le _,RG.dD _ _⟩;have b6:Hid (∀W A m c',SR vB false W A m c' (aH a (iE c))->Calls Tryz.prog 59 #[.slice A m c',.int .i64 d,.int .i64 ((iY c:Nat):Int)] W (RT vB false W (B,0))):=by
  show∀W A m c',_->_;intro W A m c' hs;have:=hs.hn;rw[bm]at this;rw[hB];exact sI A m c' _ d (iY c) W oO oO oO hs
 have a1:Hid (∀W A m c',SR vB false W A m c' B->Calls Tryz.prog 60 #[.slice A m c',.int .i64 4,.bool false] W (RT vN 0 W (bN B 4 (fV c),0))):=by
  show∀W A m c',_->_;intro W A m c' hs;have b:=hs.hn;rw[n]at b;exact DW A m c' 4 (fV c) B W oO oO b oO hs
 have a2:Hid (∀W A m c',SR vN 0 W A m c' (bN B 4 (fV c))->RD W A (zl (bN B 4 (fV c)))->Calls Tryz.prog 62 #[cQ 2 16 19 (fF c) 1,.slice A m c'] W (iB W (zl (eF 16 19 (fF c) 1 (bN B 4 (fV c))),0))):=by
  show∀W A m c',_->_->_;intro W A m c' hs P;have b:=hs.hn;have Q:=b;rw[i]at Q;exact sK 2 16 19 (fF c) 1 _ m A c' W j b l oO oO P
 have a3:Hid (∀W A m c',SR vN 0 W A m c' (eF 16 19 (fF c) 1 (bN B 4 (fV c)))->Calls Tryz.prog 63 #[.slice A m c',.int .i64 4] W (RT vB false W (gK L c k,0))):=by
  show∀W A m c',_->_;intro W A m c' hs;have b:=hs.hn;rw[J];exact qu A m c' 4 _ W oO oO oO K hs
 have c9:k<=eM c:=O;clear hB n i l J j av b4 f o K p q hc ap b3;generalize iE c=lb at*;generalize iY c=db at*;generalize fF c=mp at*;generalize bN B 4 (fV c)=S at*;generalize eF 16 19 mp 1 S=b9 at*;generalize gK L c k=ca at*;generalize aH a lb=cb at*;have dl:¬(k:Int)<1:=oO;generalize eM c=T at*;have dm:¬(T:Int)<(k:Int):=oO;go_enter Tryz.func23,Tryz.ntmps23
 go_wp2_with(first
  |(go_at_call 29;refine(ad.out _).mono ?_;rintro e w1 ⟨rfl,r⟩;have a4:Hid (Below w.heap.size w w1):=cN r;clear r)
  |(go_at_call 57;refine(al.out _).mono ?_;rintro e w2 ⟨rfl,s⟩;rw[s];clear s)
  |(go_at_call 58;refine(am.out _).mono ?_;rintro e ce ⟨rfl,t⟩;rw[t];clear t)
  |(go_at_call 59;(with_reducible show Calls _ _ #[.slice none 0 0,_,_] _ _);refine(b5.out _).mono ?_;rintro e U ⟨v4,rfl,u,v⟩;obtain⟨cg,n4,ch,rfl,a5⟩:=u.parts;have a6:=Lib.hid a5;have a7:Hid (Below w.heap.size w U):=ab a4.out v;clear u v)
  |(go_at_call 59;refine(b6.out _ _ _ _ a6.out).mono ?_;rintro e V ⟨ci,rfl,x,y⟩;obtain⟨ck,co,cp,rfl,a8⟩:=x.parts;have a9:=Lib.hid a8;have bb:Hid (Below w.heap.size w V):=ab a7.out y;clear x y)
  |(go_at_call 60;refine(a1.out _ _ _ _ a9.out).mono ?_;rintro e X ⟨v6,rfl,z,C⟩;obtain⟨cq,cr,cs,rfl,-,bd,D⟩:=z.rd;have be:=Lib.hid bd;have bf:=Lib.hid D;have bi:Hid (Below w.heap.size w X):=ab bb.out C;clear z C D)
  |(go_at_call 61;refine(a0.out _).mono ?_;rintro e Y ⟨rfl,g⟩;have bo:Hid (Below w.heap.size w Y):=ab bi.out g;have bq:=Lib.hid (be.out.below g);have bs:=Lib.hid (bf.out.below g);clear g)
  |(go_at_call 62;refine(a2.out _ _ _ _ (bq.out.below (ar _ _)) (bs.out.below (ar _ _))).mono ?_;rintro e Z ⟨cv,rfl,E,F⟩;obtain⟨cx,c2,c3,rfl,-,bt,-⟩:=bh.Eo E;have bv:=Lib.hid bt;have bx:Hid (Below w.heap.size w Z):=ab (ae bo.out _) F;clear E F)
  |(go_at_call 63;refine(a3.out _ _ _ _ bv.out).mono ?_;rintro e ac ⟨c4,rfl,G,H⟩;have b1:=Lib.hid G;have b2:Hid (Below w.heap.size w ac):=ab bx.out H;clear G H))
 go_ret2
 exact RT.mk rfl b1.out b2.out
theorem lE {l:List UInt8} {C:Nat->Nat->Nat} (hl:l.length<=60) (a:cj (bA l) C) (L:Nat) {ws:List Nat} (b:ws=az (bz l) (aq L)):aA (2^aq L) ws/\ws.length<=(bz l).length/\(bz l).length<=ws.length* aq L/\(bz l).length<=501:=by
 have f:=mZ oO a;have g:=eK L;obtain⟨e,e1,e2,e3,e4,e5,e6,e7⟩:=ma (bz l) (aq L) oO oO oO;rw[<-b]at e4 e6 e7;refine⟨λi=>?_,e7,e4,by omega⟩;rcases Nat.lt_or_ge i ws.length with hi|hi
 ·have:ws.getD i 0∈ws:=by simp only[List.getD,List.getElem?_eq_getElem hi,Option.getD_some];exact List.getElem_mem hi
  have:=(e6 _ this).2;omega
 ·rw[j4 hi];exact Nat.two_pow_pos _
theorem vo {L:Nat} {c:Bool} {ws:List Nat} (hw:aA (2^aq L) ws):mC (2^aq L) (kt (aq L)) (aQ L c-ws.length) 1 ws (ql L c ws):=rP (FI (mW L)) hw
theorem oH {L:Nat} {c:Bool} {ws:List Nat} (hw:aA (2^aq L) ws) (hk:ws.length<=aQ L c):(ql L c ws).length=aQ L c:=by rw[(vo hw).ln];omega
theorem sj {L:Nat} {c:Bool} {ws:List Nat} (hw:aA (2^aq L) ws) (hk:ws.length<=aQ L c):(ja L c ws).length=aQ L c* aq L:=by unfold ja;rw[iX,oH hw hk]
theorem uL (L:Nat) (c:Bool):aQ L c* aq L<=dY L c:=Nat.div_mul_le_self _ _
theorem oB (L:Nat) (c:Bool) (k:Nat):(gK L c k).length=if c=true then 28 else 40:=by
 unfold gK;rw[iX,ow,gn];cases c<;>rfl
section
variable {L : Nat} {c : Bool} (h1 : 1 ≤ L) (hL : L ≤ 32) (hc : c = true → L ≤ 4) {ws : List Nat} (hw : aA (2 ^ aq L) ws) (hk : ws.length ≤ aQ L c)
include h1 hL hw hk
end
theorem getD_set_ne (d:List Bool) {i j:Nat} (b:Bool) (h:i≠j):(d.set i b).getD j false=d.getD j false:=by
 simp only[List.getD];rw[List.getElem?_set_ne h]
section
variable {n : Nat} {d : List Bool} {ps : List Pt} (hi : ∀ p ∈ ps, df n p < d.length) (hn : ps.Pairwise fun p q => df n p ≠ df n q)
include hi hn
end
section
variable {L : Nat} {c : Bool} (h1 : 1 ≤ L) (hL : L ≤ 32) (hc : c = true → L ≤ 4) {ws : List Nat} (hw : aA (2 ^ aq L) ws) (hk : ws.length ≤ aQ L c)
include h1 hL hw hk
end
theorem rJ:(Tryz.prog.info? 91).map (·.zero)=some (some (.agg #[.int .i64 0,.int .i64 0,.int .i64 0,.int .i64 0,.int .i64 0])):=oK
theorem xT:(Tryz.prog.info? 91).map (·.size)=some 5:=oK
theorem vz:(Tryz.prog.info? 71).map (·.zero)=some (some (.agg #[.int .i64 0,.bool false,.int .i64 0,.int .i64 0])):=oK
theorem Ea:(Tryz.prog.info? 71).map (·.size)=some 4:=oK
theorem Ge:Tryz.prog.underlying 40=some (.slice (Tryz.prog.elem 40)):=oK
theorem H3 (w:World):(sizeOf (Tryz.prog.elem 40)).run Tryz.prog w= .ok 2 w:=oK
theorem AN {a:Act} {d:Oper} {W:World} {x i:Operand} (e:d.op= .slice 40 x (some i) none none) {A:Option Addr} {n c:Nat} (f:a.eval x= .slice A n c) (k:Nat) (g:a.eval i= .int .i64 (k:Int)) (m:k<=n) {v:Value} (j:sliced A k n c 2=v):
 (execOp a.eval d).run Tryz.prog W= .ok (.value v) W:=by
 subst j;have b:=run_slice_l (P:=Tryz.prog) W 40 A n c Ge .i64 (k:Int) oO oO;rw[H3]at b;simp only[Result.andThen_ok,Int.toNat_natCast]at b;have l:=run_sliceAt_slice (P:=Tryz.prog) W 40 (.slice A n c) (some (.int .i64 (k:Int))) none none Ge;unfold execOp;simp only[e,f,g,Option.map_some,Option.map_none,Sem.run_bind,Sem.run_pure,Result.andThen_ok,l,b]
theorem ee.from {B:Nat} {w:World} {A:Option Addr} {n c:Nat} {xs:List Pt} (h:ee B w (.slice A n c) xs) (k:Nat) (t:k<=n):ee B w (sliced A k n c 2) (xs.drop k):=by
 obtain⟨⟨A',c',e,u,v,o⟩,d⟩:=h;injection e with e1 e2 e3;subst e1 e2 e3;by_cases l:c=k
 ·have p:xs.drop k=[]:=List.drop_eq_nil_of_le oO;rw[p];unfold sliced;rw[if_pos l];have q:xs.length-k=0:=oO;rw[q];exact⟨⟨A,c-k,rfl,Nat.zero_le _,by omega,λh=>absurd h oS⟩,λA' m r f e1 e2=>by injection e1 with e1 _ _;exact d A xs.length c f rfl (e1.trans e2)⟩
 ·unfold sliced;rw[if_neg l];refine⟨⟨_,c-k,by rw[List.length_drop],by rw[List.length_drop];omega,by omega,λhn=>?_⟩,λA' m r f e1 e2=>?_⟩
  ·rw[List.length_drop]at hn;obtain⟨g,a,e,hg,hc⟩:=o oO;refine⟨g,a+k* 2,by rw[e,Option.map_some,add_plain],hg,λj s=>?_⟩;rw[List.length_drop]at s;have b:=hc (k+j) oO;have e6:(xs.drop k).getD j (0,0)=xs.getD (k+j) (0,0):=by simp[List.getD]
   rw[e6,show a+k* 2+j* 2=a+(k+j)* 2 from by omega];exact b
  ·injection e1 with e1 _ _;rw[e2]at e1;cases A with
   |none=>cases e1
   |some i=>
    have b:=d (some i) xs.length c i rfl rfl;simp only[Option.map_some]at e1;injection e1 with e1;rw[<-e1,aV];exact b
theorem SR.dX {α:Type} {f:α->Value} {d:α} {w W:World} {db:Nat} {A:Option Addr} {n c:Nat} {l:List α} (h:SR f d w A n c l) (b:au db w W) (g:∀a,A=some a->a.block≠db):SR f d W A n c l:=by
 refine⟨h.hn,h.hc,h.hm,λi=>?_⟩;obtain⟨a,e,hl,hc⟩:=h.rd i;exact⟨a,e,Nat.lt_of_lt_of_le hl b.sz,λj k=>(b.cell (by rw[aV];exact hl) (by rw[aV];exact g a e)).trans (hc j k)⟩
abbrev og (L:Nat) (c:Bool) (k n db N:Nat):Value:= .agg #[.int .i64 (L:Int),.bool c,.int .i64 (k:Int),.int .i64 (n:Int),.int .i64 (n:Int),.slice (some ⟨db,0,none⟩) N N]
abbrev aI:Array Value:=#[.int .i64 0,.bool false,.int .i64 0,.int .i64 0,.int .i64 0,.slice none 0 0]
def K4 (d:World) (L:Nat) (c:Bool) (z e S P par:Nat) (A:Option Addr) (m f:Nat) (a a':Act) (W:World):Prop:=∃b,a'=(((((((((((((a.put (some 15) (cy L c)).put (some 17) (cy L c)).put (some 19) (.slice A m f)).put (some 20) (.int .i64 m)).put (some 16) (.int .i64 z)).put (some 18) (.int .i64 e)).put (some 21) (.int .i64 par)).put (some 22) (.tuple #[cQ 2 S P par 1,.int .i64 0])).put (some 14) (.tuple #[cQ 2 S P par 1,.int .i64 0])).put (some 23) (cQ 2 S P par 1)).put (some 24) (.int .i64 0)).put (some 6) (.pointer (some ⟨b,0,none⟩))).put (some 7) (.int .i64 0))/\aa W b (gT 2 S P par 1).toArray 91/\af d W/\d.heap.size<=b
def Ld (d:World) (f L:Nat) (c:Bool) (n C e:Nat) (a a':Act) (W:World):Prop:=∃b,a'=((((((a.put (some 64) (cy L c)).put (some 66) (.pointer (some ⟨f,1,none⟩))).put (some 67) (.bool c)).put (some 65) (.int .i64 n)).put (some 68) (fi n c C e)).put (some 11) (.pointer (some ⟨b,0,none⟩)))/\aa W b (gE n c C e).toList.toArray 71/\af d W/\d.heap.size<=b
theorem tG (L:Nat) (c:Bool) (f:List Nat) (A:Option Addr) (m bf:Nat) (w:World) (x:1<=L) (D:L<=32) (hc:c=true->L<=4) (bi:aA (2^aq L) f) (gi:1<=f.length) (go:f.length<=eM c) (u:f.length<aQ L c) (hs:SR vN 0 w A m bf f):
 Calls Tryz.prog 35 #[cy L c,.slice A m bf] w λe w'=>∃db N,N=ao L c* ao L c/\e= .returned (.tuple #[og L c m (ao L c) db N,.int .i64 0])/\bc w' db (fw L c f)/\w.heap.size<=db/\Below w.heap.size w w':=by
 have ci:m=f.length:=hs.hn;have k2:RD w A (zl f):=by
  obtain⟨A',fo,c',e,-,-,dy⟩:=SG.rd hs.sg;injection e with e1 e2 e3;rw[e1];exact dy
 have n5:=wj (c:=c) x D hc;have n6:=eK L;have n7:=lX (c:=c) x D;have bs:=nz L c x D;have sp:=DF c;have v9:=lD (c:=c) D;have fr:=vo (c:=c) bi;have n8:=oH (c:=c) bi oO;have k3:=sj (c:=c) bi oO;have n9:=uL L c;have oa:=sA L c;have ob:=room_le (c:=c) D;have k4:eo 2 (2^aq L) (kt (aq L)) (aQ L c-f.length) 1:=D9 (mW L) oO oO;have st:f.length+(aQ L c-f.length)=aQ L c:=oO;have d6:Hid (∀W,Calls Tryz.prog 33 #[cy L c] W λe w'=>e= .returned (.int .i64 ((aq L:Nat):Int))/\Below W.heap.size W w'):=λW=>lB L c W D;have d7:Hid (∀W,Calls Tryz.prog 44 #[cy L c] W λe w'=>e= .returned (.int .i64 ((aQ L c:Nat):Int))/\Below W.heap.size W w'):=λW=>qR L c W D;have gq:Hid (∀W,Calls Tryz.prog 36 #[cy L c] W λe w'=>e= .returned (.int .i64 ((ao L c:Nat):Int))/\Below W.heap.size W w'):=λW=>qg L c W D;have d8:Hid (∀W,Calls Tryz.prog 39 #[.int .i64 ((ao L c:Nat):Int),.bool c] W λe w'=>e= .returned (fi (ao L c) c (aP L c) (bD c))/\Below W.heap.size W w'):=λW=>r9 (ao L c) c W oO oO;have oi:Hid (∀W,Calls Tryz.prog 83 #[fi (ao L c) c (aP L c) (bD c)] W λe w'=>∃db N,N=ao L c* ao L c/\e= .returned (C7 (ao L c) (ao L c) db N)/\W.heap.size<=db/\bc w' db (fY (ao L c) (aP L c) c)/\Below W.heap.size W w'):=λW=>Fw (ao L c) (aP L c) (bD c) c W rfl oO oO oO;have oj:Hid (∀W,Calls Tryz.prog 46 #[cy L c] W λe w'=>∃v,e= .returned v/\ee W.heap.size w' v (bR L c)/\Below W.heap.size W w'):=λW=>yG L c W D;have ol:Hid (∀W,Calls Tryz.prog 43 #[fi (ao L c) c (aP L c) (bD c)] W λe w'=>∃v,e= .returned v/\ee W.heap.size w' v (dc (aP L c) c)/\Below W.heap.size W w'):=λW=>qM (ao L c) (aP L c) c W oO oO;have oo:Hid (∀W,Calls Tryz.prog 23 #[.int .i64 L,.int .i64 m,.bool c] W (RT vB false W (gK L c f.length,0))):=λW=>by rw[ci];exact GO L f.length c W x D hc gi go
 have bt:Hid (∀W,Calls Tryz.prog 61 #[.int .i64 ((aq L:Nat):Int),.int .i64 ((aQ L c-f.length:Nat):Int)] W λe w'=>e= .returned (.tuple #[cQ 2 (2^aq L) (kt (aq L)) (aQ L c-f.length) 1,.int .i64 0])/\Below W.heap.size W w'):=λW=>IV (aq L) (aQ L c-f.length) W (mW L) oO oO;have gs:Hid (∀W,RD W A (zl f)->Calls Tryz.prog 62 #[cQ 2 (2^aq L) (kt (aq L)) (aQ L c-f.length) 1,.slice A m bf] W (iB W (zl (ql L c f),0))):=λW dy=>sK 2 (2^aq L) (kt (aq L)) (aQ L c-f.length) 1 f m A bf W k4 ci bi oO oO dy;have op:Hid (∀W A m c',SR vN 0 W A m c' (ql L c f)->Calls Tryz.prog 63 #[.slice A m c',.int .i64 ((aq L:Nat):Int)] W (RT vB false W (ja L c f,0))):=by
  show∀W A m c',_->_;intro W A m c' gt;have t8:=gt.hn;exact qu A m c' (aq L) _ W oO oO oO fr.lt gt
 have k5:∀p∈bR L c,df (ao L c) p<ao L c* ao L c:=λp M=>mA (pe D M).1 (pe D M).2;have k7:∀p∈dc (aP L c) c,df (ao L c) p<ao L c* ao L c:=λp M=>by have:=CY (c:=c) (C:=aP L c) oO M;exact mA oO oO
 have k9:Hid (∀p∈(bR L c).drop ((bR L c).length-(ja L c f).length),df (ao L c) p<(fY (ao L c) (aP L c) c).length):=by show∀p∈_,_;intro p M;rw[jM];exact k5 p (List.mem_of_mem_drop M)
 have sv:Hid (∀l:List Bool,l.length=ao L c* ao L c->∀p∈dc (aP L c) c,df (ao L c) p<l.length):=by show∀l:List Bool,_;intro l hl p M;rw[hl];exact k7 p M
 have gx:Hid (wrL (ao L c) (wrL (ao L c) (fY (ao L c) (aP L c) c) ((bR L c).drop ((bR L c).length-(ja L c f).length)) (ja L c f)) (dc (aP L c) c) (gK L c f.length)=fw L c f):=rfl;have gy:=Lib.hid (jM (ao L c) (aP L c) c);have gL:=Lib.hid (λd ps ms=>dk (ao L c) d ps ms);have gN:Hid (((bR L c).drop ((bR L c).length-(ja L c f).length)).length=(ja L c f).length):=by show _=_;rw[List.length_drop];omega
 have os:Hid ((dc (aP L c) c).length=(gK L c f.length).length):=by show _=_;rw[oB,oA]
 have s0:Hid (1<=(gK L c f.length).length):=by show _<=_;rw[oB];split<;>omega
 have la:1<=(ja L c f).length:=by rw[k3];exact Nat.mul_pos oO oO
 have s1:=Lib.hid la;have gX:(ja L c f).length<=(bR L c).length:=oO;have s2:(bR L c).length<=20000:=oO;have gY:ao L c<=161:=bs.2;obtain⟨par,lc⟩:∃par,par=aQ L c-f.length:=⟨_,rfl⟩;have t4:par+f.length=aQ L c:=oO;rw[<-lc]at bt gs;clear fr n8 k3 n9 oa ob k4 st n5 n7 sp bi gi go k5 k7 lc la u bs x D hc;generalize fw L c f=dl at*;generalize ql L c f=t9 at*;generalize ja L c f=K at*;generalize gK L c f.length=g0 at*;generalize bR L c=V at*;generalize ov:fY (ao L c) (aP L c) c=Z at*;clear ov;generalize dc (aP L c) c=eu at*;generalize o0:2^aq L=S at*;generalize o1:kt (aq L)=P at*;clear o0 o1;generalize aq L=z at*;generalize aQ L c=fv at*;generalize ao L c=n at*;generalize aP L c=C at*;generalize bD c=y at*;have wd:z<=12:=oO;have wf:(fv:Int)-(m:Int)=(par:Int):=oO;have wl:par<=4000:=oO;have wm:IntKind.i64.wrap (par:Int)=(par:Int):=aJ _ oO oO;have v1:m<=4000:=oO;clear n6 t4;obtain⟨B,bv⟩:∃B,B=w.heap.size:=⟨_,rfl⟩;obtain⟨j,ck⟩:∃j,j=w.heap.size+1:=⟨_,rfl⟩;obtain⟨a,a3⟩:∃a,a=(w.alloc (bM L c)).alloc (.cells aI 30):=⟨_,rfl⟩;have g1:Hid (Below w.heap.size w a):=by show Below _ _ _;rw[a3];exact ae (ar _ _) _
 have d9:Hid (aa a B #[.int .i64 L,.bool c] 60):=by
  show aa _ _ _ _;rw[a3];have x:aa (w.alloc (bM L c)) B #[.int .i64 L,.bool c] 60:=aa.new _ _ _ _ bv;exact x.below (ar _ _)
 have o2:Hid (aa a j aI 30):=by show aa _ _ _ _;rw[a3];exact aa.new _ _ _ _ (by simp[ck])
 have ea:Hid (w.heap.size<=j/\B<j/\j<a.heap.size/\w.heap.size<=a.heap.size):=by show _/\_;rw[a3,ck,bv];simp;omega
 have s:Hid (∀W,af a W->W.cell? ⟨B,0,none⟩=some (.int .i64 (L:Int))/\W.cell? ⟨B,1,none⟩=some (.bool c)):=λW O=>⟨(d9.out.below O).cell 0 _ rfl,(d9.out.below O).cell 1 _ rfl⟩;have o3:=Lib.hid k2;clear k2 hs;have v2:=Lib.hid ci;clear ci;go_enter Tryz.func35,Tryz.ntmps35;go_wp2;simp only[<-ck,<-a3];simp only[<-bv];clear a3 ck;have v3:=Lib.hid bv;clear bv;have bx:Hid (Below a.heap.size a a.drew):=ak (Below.refl _ _);refine kB (S:=af a) (.br [(false,0),(false,2),(false,4),(false,5)] [1,11] (λk=>if k=1 then .br [] [3,11] (λk=>if k=3 then .br [(false,6)] [7,11] (λk=>if k=7 then .last [(false,8),(false,9),(false,10),(true,11),(true,12),(false,13)]else .last [(true,7),(false,8),(false,9),(false,10),(true,12),(false,13)])else .last [(true,3),(false,6),(true,7),(false,8),(false,9),(false,10),(true,12),(false,13)])else .last [(true,1),(true,3),(false,6),(true,7),(false,8),(false,9),(false,10),(true,12),(false,13)])) (K4 a L c z fv S P par A m bf) oK oK bx.out ?_ ?_
 ·simp only[wpTree,attachW,List.getElem?_cons_zero,List.getElem?_cons_succ]
  repeat refine zO s.out ?_
  refine ag ?_;intro k u;simp only[List.mem_cons,List.not_mem_nil,or_false]at u;rcases u with rfl|rfl
  ·simp only[reduceIte,Nat.reduceEqDiff,wpTree,attachW,List.getElem?_cons_zero,List.getElem?_cons_succ];refine zZ ?_;refine(d6.out _).mono ?_;rintro e d0 ⟨rfl,hb⟩;have X:Hid (af a d0):=ab bx.out hb;clear hb;refine⟨_,rfl,X.out,jO ?_⟩;refine ag ?_
   (try simp only[reduceIte,Nat.reduceEqDiff,wpTree,attachW,List.getElem?_cons_zero,List.getElem?_cons_succ])
   refine ag ?_;intro k u;simp only[List.mem_cons,List.not_mem_nil,or_false]at u;rcases u with rfl|rfl
   ·simp only[reduceIte,Nat.reduceEqDiff,wpTree,attachW,List.getElem?_cons_zero,List.getElem?_cons_succ];refine zZ ?_;refine(d7.out _).mono ?_;rintro e d1 ⟨rfl,hb⟩;have Y:Hid (af a d1):=ab X.out hb;clear hb;refine⟨_,rfl,Y.out,jO ?_⟩;refine ag ?_
    (try simp only[reduceIte,Nat.reduceEqDiff,wpTree,attachW,List.getElem?_cons_zero,List.getElem?_cons_succ])
    repeat refine zO s.out ?_
    refine ag ?_;intro k u;simp only[List.mem_cons,List.not_mem_nil,or_false]at u;rcases u with rfl|rfl
    ·simp only[reduceIte,Nat.reduceEqDiff,wpTree,attachW,List.getElem?_cons_zero,List.getElem?_cons_succ];refine zZ ?_;refine(bt.out _).mono ?_;rintro e d2 ⟨rfl,hb⟩;have ad:Hid (af a d2):=ab Y.out hb;clear hb;refine⟨_,rfl,ad.out,jO ?_⟩;refine ag ?_
     (try simp only[reduceIte,Nat.reduceEqDiff,wpTree,attachW,List.getElem?_cons_zero,List.getElem?_cons_succ])
     repeat refine zO s.out ?_
     obtain⟨d3,co⟩:∃g,g=d2.alloc (.cells #[.int .i64 0,.int .i64 0,.int .i64 0,.int .i64 0,.int .i64 0] 91):=⟨_,rfl⟩;obtain⟨a0,al⟩:∃b,b=d2.heap.size:=⟨_,rfl⟩;have cp:Hid (af a d3):=by show Below _ _ _;rw[co];exact ae ad.out _
     have fx:Hid (aa d3 a0 #[.int .i64 0,.int .i64 0,.int .i64 0,.int .i64 0,.int .i64 0] 91):=by show aa _ _ _ _;rw[co,al];exact aa.new _ _ _ _ rfl
     have f0:Hid (a.heap.size<=a0):=by show _<=_;rw[al];exact ad.out.size
     refine' eJ 91 rfl rfl _ rJ (ae ad.out _) ?_;simp only[yQ,yU,yX,yY];rw[<-co,<-al];clear co al;obtain⟨f1,b1⟩:∃g,g=d3.setRow a0 (gT 2 S P par 1).toArray:=⟨_,rfl⟩;have g2:Hid (af a f1):=by show Below _ _ _;rw[b1];exact below_setRow cp.out f0.out _
     have mt:Hid (aa f1 a0 (gT 2 S P par 1).toArray 91):=by show aa _ _ _ _;rw[b1];exact aa.set fx.out _
     refine fh 91 rfl _ _ rfl 91 a0 #[.int .i64 0,.int .i64 0,.int .i64 0,.int .i64 0,.int .i64 0] (gT 2 S P par 1) fx.out rfl rfl xT rfl (by intro v r;simp only[List.mem_cons,List.not_mem_nil,or_false]at r;rcases r with rfl|rfl|rfl|rfl|rfl<;>rfl) (by rw[<-b1];exact g2.out) ?_;rw[<-b1];simp only[yQ,yU,yX,yY];clear b1
     repeat refine zO s.out ?_
     refine ag ?_;refine⟨a0,?_,mt.out,g2.out,f0.out⟩;simp only[yQ,yU,yX,yY]
    ·simp only[reduceIte,Nat.reduceEqDiff,wpTree,attachW,List.getElem?_cons_zero,List.getElem?_cons_succ];obtain⟨f2,cq⟩:∃g,g=d1.alloc (.cells #[.int .i64 0,.int .i64 0,.int .i64 0,.int .i64 0,.int .i64 0] 91):=⟨_,rfl⟩;obtain⟨a1,cr⟩:∃b,b=d1.heap.size:=⟨_,rfl⟩;have o8:Hid (af a f2):=by show Below _ _ _;rw[cq];exact ae Y.out _
     have mv:Hid (aa f2 a1 #[.int .i64 0,.int .i64 0,.int .i64 0,.int .i64 0,.int .i64 0] 91):=by show aa _ _ _ _;rw[cq,cr];exact aa.new _ _ _ _ rfl
     have f3:Hid (a.heap.size<=a1):=by show _<=_;rw[cr];exact Y.out.size
     refine' eJ 91 rfl rfl _ rJ (ae Y.out _) ?_;simp only[yQ,yU,yX,yY];rw[<-cq,<-cr];clear cq cr;refine ag ?_
     (try simp only[reduceIte,Nat.reduceEqDiff,wpTree,attachW,List.getElem?_cons_zero,List.getElem?_cons_succ])
     refine zZ ?_;refine(bt.out _).mono ?_;rintro e f4 ⟨rfl,hb⟩;have g3:Hid (af a f4):=ab o8.out hb;have f5:=Lib.hid (mv.out.below hb);clear hb;refine⟨_,rfl,g3.out,jO ?_⟩
     repeat refine zO s.out ?_
     obtain⟨f6,b2⟩:∃g,g=f4.setRow a1 (gT 2 S P par 1).toArray:=⟨_,rfl⟩;have g4:Hid (af a f6):=by show Below _ _ _;rw[b2];exact below_setRow g3.out f3.out _
     have m0:Hid (aa f6 a1 (gT 2 S P par 1).toArray 91):=by show aa _ _ _ _;rw[b2];exact aa.set f5.out _
     refine fh 91 rfl _ _ rfl 91 a1 #[.int .i64 0,.int .i64 0,.int .i64 0,.int .i64 0,.int .i64 0] (gT 2 S P par 1) f5.out rfl rfl xT rfl (by intro v r;simp only[List.mem_cons,List.not_mem_nil,or_false]at r;rcases r with rfl|rfl|rfl|rfl|rfl<;>rfl) (by rw[<-b2];exact g4.out) ?_;rw[<-b2];simp only[yQ,yU,yX,yY];clear b2
     repeat refine zO s.out ?_
     refine ag ?_;refine⟨a1,?_,m0.out,g4.out,f3.out⟩;simp only[yQ,yU,yX,yY]
   ·simp only[reduceIte,Nat.reduceEqDiff,wpTree,attachW,List.getElem?_cons_zero,List.getElem?_cons_succ];obtain⟨f7,cs⟩:∃g,g=d0.alloc (.cells #[.int .i64 0,.int .i64 0,.int .i64 0,.int .i64 0,.int .i64 0] 91):=⟨_,rfl⟩;obtain⟨a2,cv⟩:∃b,b=d0.heap.size:=⟨_,rfl⟩;have pb:Hid (af a f7):=by show Below _ _ _;rw[cs];exact ae X.out _
    have m1:Hid (aa f7 a2 #[.int .i64 0,.int .i64 0,.int .i64 0,.int .i64 0,.int .i64 0] 91):=by show aa _ _ _ _;rw[cs,cv];exact aa.new _ _ _ _ rfl
    have f8:Hid (a.heap.size<=a2):=by show _<=_;rw[cv];exact X.out.size
    refine' eJ 91 rfl rfl _ rJ (ae X.out _) ?_;simp only[yQ,yU,yX,yY];rw[<-cs,<-cv];clear cs cv;refine ag ?_
    (try simp only[reduceIte,Nat.reduceEqDiff,wpTree,attachW,List.getElem?_cons_zero,List.getElem?_cons_succ])
    refine zZ ?_;refine(d7.out _).mono ?_;rintro e pi ⟨rfl,hb⟩;have bd:Hid (af a pi):=ab pb.out hb;have pl:=Lib.hid (m1.out.below hb);clear hb;refine⟨_,rfl,bd.out,jO ?_⟩
    repeat refine zO s.out ?_
    refine zZ ?_;refine(bt.out _).mono ?_;rintro e g5 ⟨rfl,hb⟩;have cx:Hid (af a g5):=ab bd.out hb;have g6:=Lib.hid (pl.out.below hb);clear hb;refine⟨_,rfl,cx.out,jO ?_⟩
    repeat refine zO s.out ?_
    obtain⟨g7,b5⟩:∃g,g=g5.setRow a2 (gT 2 S P par 1).toArray:=⟨_,rfl⟩;have c2:Hid (af a g7):=by show Below _ _ _;rw[b5];exact below_setRow cx.out f8.out _
    have pm:Hid (aa g7 a2 (gT 2 S P par 1).toArray 91):=by show aa _ _ _ _;rw[b5];exact aa.set g6.out _
    refine fh 91 rfl _ _ rfl 91 a2 #[.int .i64 0,.int .i64 0,.int .i64 0,.int .i64 0,.int .i64 0] (gT 2 S P par 1) g6.out rfl rfl xT rfl (by intro v r;simp only[List.mem_cons,List.not_mem_nil,or_false]at r;rcases r with rfl|rfl|rfl|rfl|rfl<;>rfl) (by rw[<-b5];exact c2.out) ?_;rw[<-b5];simp only[yQ,yU,yX,yY];clear b5
    repeat refine zO s.out ?_
    refine ag ?_;refine⟨a2,?_,pm.out,c2.out,f8.out⟩;simp only[yQ,yU,yX,yY]
  ·simp only[reduceIte,Nat.reduceEqDiff,wpTree,attachW,List.getElem?_cons_zero,List.getElem?_cons_succ];obtain⟨g8,c3⟩:∃g,g=a.drew.alloc (.cells #[.int .i64 0,.int .i64 0,.int .i64 0,.int .i64 0,.int .i64 0] 91):=⟨_,rfl⟩;obtain⟨a4,ap⟩:∃b,b=a.drew.heap.size:=⟨_,rfl⟩;have b6:Hid (af a g8):=by show Below _ _ _;rw[c3];exact ae bx.out _
   have pp:Hid (aa g8 a4 #[.int .i64 0,.int .i64 0,.int .i64 0,.int .i64 0,.int .i64 0] 91):=by show aa _ _ _ _;rw[c3,ap];exact aa.new _ _ _ _ rfl
   have g9:Hid (a.heap.size<=a4):=by show _<=_;rw[ap];exact bx.out.size
   refine' eJ 91 rfl rfl _ rJ (ae bx.out _) ?_;simp only[yQ,yU,yX,yY];rw[<-c3,<-ap];clear c3 ap;refine ag ?_
   (try simp only[reduceIte,Nat.reduceEqDiff,wpTree,attachW,List.getElem?_cons_zero,List.getElem?_cons_succ])
   refine zZ ?_;refine(d6.out _).mono ?_;rintro e pu ⟨rfl,hb⟩;have li:Hid (af a pu):=ab b6.out hb;have pv:=Lib.hid (pp.out.below hb);clear hb;refine⟨_,rfl,li.out,jO ?_⟩;refine zZ ?_;refine(d7.out _).mono ?_;rintro e p0 ⟨rfl,hb⟩;have ll:Hid (af a p0):=ab li.out hb;have p3:=Lib.hid (pv.out.below hb);clear hb;refine⟨_,rfl,ll.out,jO ?_⟩
   repeat refine zO s.out ?_
   refine zZ ?_;refine(bt.out _).mono ?_;rintro e ib ⟨rfl,hb⟩;have lm:Hid (af a ib):=ab ll.out hb;have ih:=Lib.hid (p3.out.below hb);clear hb;refine⟨_,rfl,lm.out,jO ?_⟩
   repeat refine zO s.out ?_
   obtain⟨ii,b7⟩:∃g,g=ib.setRow a4 (gT 2 S P par 1).toArray:=⟨_,rfl⟩;have ls:Hid (af a ii):=by show Below _ _ _;rw[b7];exact below_setRow lm.out g9.out _
   have p4:Hid (aa ii a4 (gT 2 S P par 1).toArray 91):=by show aa _ _ _ _;rw[b7];exact aa.set ih.out _
   refine fh 91 rfl _ _ rfl 91 a4 #[.int .i64 0,.int .i64 0,.int .i64 0,.int .i64 0,.int .i64 0] (gT 2 S P par 1) ih.out rfl rfl xT rfl (by intro v r;simp only[List.mem_cons,List.not_mem_nil,or_false]at r;rcases r with rfl|rfl|rfl|rfl|rfl<;>rfl) (by rw[<-b7];exact ls.out) ?_;rw[<-b7];simp only[yQ,yU,yX,yY];clear b7
   repeat refine zO s.out ?_
   refine ag ?_;refine⟨a4,?_,p4.out,ls.out,g9.out⟩;simp only[yQ,yU,yX,yY]
 rintro a' w1 ⟨bo,rfl,io,ip,p5⟩;have b3:=Lib.hid io;have X:=Lib.hid ip;clear io ip p5;simp only[yQ,yU,yX,yY];have m2:w1.cell? ⟨bo,0,none⟩=some (.int .i64 2):=b3.out.cell 0 _ rfl;have m3:w1.cell? ⟨bo,1,none⟩=some (.int .i64 S):=b3.out.cell 1 _ rfl;have m4:w1.cell? ⟨bo,2,none⟩=some (.int .i64 P):=b3.out.cell 2 _ rfl;have m5:w1.cell? ⟨bo,3,none⟩=some (.int .i64 par):=b3.out.cell 3 _ rfl;have m6:w1.cell? ⟨bo,4,none⟩=some (.int .i64 1):=b3.out.cell 4 _ rfl
 go_wp2_with(first
  |(go_at_call 62;refine(gs.out _ (o3.out.below (ab g1.out X.out))).mono ?_;rintro e w2 ⟨ul,rfl,it,iv⟩;obtain⟨un,n2,f9,rfl,-,qi,-⟩:=bh.Eo it;have qr:=Lib.hid qi;have Y:Hid (Below a.heap.size a w2):=ab X.out iv;clear it iv m2 m3 m4 m5 m6;obtain⟨Q,T⟩:=s.out _ Y.out)
  |(go_at_call 33;refine(d6.out _).mono ?_;rintro e m7 ⟨rfl,ec⟩;have ad:Hid (Below a.heap.size a m7):=ab Y.out ec;have qs:=Lib.hid (qr.out.below ec);clear ec Q T;obtain⟨Q,T⟩:=s.out _ ad.out)
  |(go_at_call 63;refine(op.out _ _ _ _ qs.out).mono ?_;rintro e m8 ⟨v4,rfl,ix,al⟩;obtain⟨d4,n4,ce,rfl,q0⟩:=ix.parts;have q1:=Lib.hid q0;have cp:Hid (Below a.heap.size a m8):=ab ad.out al;clear ix al Q T;obtain⟨Q,T⟩:=s.out _ cp.out)
  |(go_at_call 23;refine(oo.out _).mono ?_;rintro e i ⟨up,rfl,i0,ed⟩;obtain⟨d5,ga,cg,rfl,q2⟩:=i0.parts;have i1:=Lib.hid q2;have ef:=Lib.hid (q1.out.below ed);have bd:Hid (Below a.heap.size a i):=ab cp.out ed;clear i0 ed Q T))
 have b4:Hid (Below i.heap.size i i.drew):=ak (Below.refl _ _);have q3:Hid (∀W,af i W->W.cell? ⟨B,0,none⟩=some (.int .i64 (L:Int))/\W.cell? ⟨B,1,none⟩=some (.bool c)):=λW O=>s.out W (ab bd.out O);refine kB (S:=af i) (.br [(false,0),(false,2),(false,3)] [1,5] (λk=>if k=1 then .br [] [4,5] (λk=>if k=4 then .last [(true,5),(true,6)]else .last [(true,4),(true,6)])else .last [(true,1),(true,4),(true,6)])) (Ld i B L c n C y) oK oK b4.out ?_ ?_
 ·simp only[wpTree,attachW,List.getElem?_cons_zero,List.getElem?_cons_succ]
  repeat refine zO q3.out ?_
  refine ag ?_;intro k u;simp only[List.mem_cons,List.not_mem_nil,or_false]at u;rcases u with rfl|rfl
  ·simp only[reduceIte,Nat.reduceEqDiff,wpTree,attachW,List.getElem?_cons_zero,List.getElem?_cons_succ];refine zZ ?_;refine(gq.out _).mono ?_;rintro e eh ⟨rfl,hb⟩;have b8:Hid (af i eh):=ab b4.out hb;clear hb;refine⟨_,rfl,b8.out,jO ?_⟩;refine ag ?_
   (try simp only[reduceIte,Nat.reduceEqDiff,wpTree,attachW,List.getElem?_cons_zero,List.getElem?_cons_succ])
   refine ag ?_;intro k u;simp only[List.mem_cons,List.not_mem_nil,or_false]at u;rcases u with rfl|rfl
   ·simp only[reduceIte,Nat.reduceEqDiff,wpTree,attachW,List.getElem?_cons_zero,List.getElem?_cons_succ];refine zZ ?_;refine(d8.out _).mono ?_;rintro e ej ⟨rfl,hb⟩;have c4:Hid (af i ej):=ab b8.out hb;clear hb;refine⟨_,rfl,c4.out,jO ?_⟩;refine ag ?_
    (try simp only[reduceIte,Nat.reduceEqDiff,wpTree,attachW,List.getElem?_cons_zero,List.getElem?_cons_succ])
    obtain⟨ek,c5⟩:∃g,g=ej.alloc (.cells #[.int .i64 0,.bool false,.int .i64 0,.int .i64 0] 71):=⟨_,rfl⟩;obtain⟨a5,c6⟩:∃b,b=ej.heap.size:=⟨_,rfl⟩;have s4:Hid (af i ek):=by show Below _ _ _;rw[c5];exact ae c4.out _
    have i2:Hid (aa ek a5 #[.int .i64 0,.bool false,.int .i64 0,.int .i64 0] 71):=by show aa _ _ _ _;rw[c5,c6];exact aa.new _ _ _ _ rfl
    have i3:Hid (i.heap.size<=a5):=by show _<=_;rw[c6];exact c4.out.size
    refine' eJ 71 rfl rfl _ vz (ae c4.out _) ?_;simp only[yQ,yU,yX,yY];rw[<-c5,<-c6];clear c5 c6;obtain⟨i4,b9⟩:∃g,g=ek.setRow a5 ((gE n c C y).toList).toArray:=⟨_,rfl⟩;have lu:Hid (af i i4):=by show Below _ _ _;rw[b9];exact below_setRow s4.out i3.out _
    have q4:Hid (aa i4 a5 ((gE n c C y).toList).toArray 71):=by show aa _ _ _ _;rw[b9];exact aa.set i2.out _
    refine fh 71 rfl _ _ rfl 71 a5 #[.int .i64 0,.bool false,.int .i64 0,.int .i64 0] ((gE n c C y).toList) i2.out rfl rfl Ea rfl (by intro v r;simp only[List.mem_cons,List.not_mem_nil,or_false]at r;rcases r with rfl|rfl|rfl|rfl<;>rfl) (by rw[<-b9];exact lu.out) ?_;rw[<-b9];simp only[yQ,yU,yX,yY];clear b9;refine ag ?_;refine⟨a5,?_,q4.out,lu.out,i3.out⟩;simp only[yQ,yU,yX,yY]
   ·simp only[reduceIte,Nat.reduceEqDiff,wpTree,attachW,List.getElem?_cons_zero,List.getElem?_cons_succ];obtain⟨i5,c7⟩:∃g,g=eh.alloc (.cells #[.int .i64 0,.bool false,.int .i64 0,.int .i64 0] 71):=⟨_,rfl⟩;obtain⟨a6,c8⟩:∃b,b=eh.heap.size:=⟨_,rfl⟩;have ta:Hid (af i i5):=by show Below _ _ _;rw[c7];exact ae b8.out _
    have rb:Hid (aa i5 a6 #[.int .i64 0,.bool false,.int .i64 0,.int .i64 0] 71):=by show aa _ _ _ _;rw[c7,c8];exact aa.new _ _ _ _ rfl
    have i6:Hid (i.heap.size<=a6):=by show _<=_;rw[c8];exact b8.out.size
    refine' eJ 71 rfl rfl _ vz (ae b8.out _) ?_;simp only[yQ,yU,yX,yY];rw[<-c7,<-c8];clear c7 c8;refine ag ?_
    (try simp only[reduceIte,Nat.reduceEqDiff,wpTree,attachW,List.getElem?_cons_zero,List.getElem?_cons_succ])
    refine zZ ?_;refine(d8.out _).mono ?_;rintro e i7 ⟨rfl,hb⟩;have lv:Hid (af i i7):=ab ta.out hb;have i8:=Lib.hid (rb.out.below hb);clear hb;refine⟨_,rfl,lv.out,jO ?_⟩;obtain⟨i9,ca⟩:∃g,g=i7.setRow a6 ((gE n c C y).toList).toArray:=⟨_,rfl⟩;have lw:Hid (af i i9):=by show Below _ _ _;rw[ca];exact below_setRow lv.out i6.out _
    have rc:Hid (aa i9 a6 ((gE n c C y).toList).toArray 71):=by show aa _ _ _ _;rw[ca];exact aa.set i8.out _
    refine fh 71 rfl _ _ rfl 71 a6 #[.int .i64 0,.bool false,.int .i64 0,.int .i64 0] ((gE n c C y).toList) i8.out rfl rfl Ea rfl (by intro v r;simp only[List.mem_cons,List.not_mem_nil,or_false]at r;rcases r with rfl|rfl|rfl|rfl<;>rfl) (by rw[<-ca];exact lw.out) ?_;rw[<-ca];simp only[yQ,yU,yX,yY];clear ca;refine ag ?_;refine⟨a6,?_,rc.out,lw.out,i6.out⟩;simp only[yQ,yU,yX,yY]
  ·simp only[reduceIte,Nat.reduceEqDiff,wpTree,attachW,List.getElem?_cons_zero,List.getElem?_cons_succ];obtain⟨jp,c9⟩:∃g,g=i.drew.alloc (.cells #[.int .i64 0,.bool false,.int .i64 0,.int .i64 0] 71):=⟨_,rfl⟩;obtain⟨a7,dm⟩:∃b,b=i.drew.heap.size:=⟨_,rfl⟩;have tb:Hid (af i jp):=by show Below _ _ _;rw[c9];exact ae b4.out _
   have rd:Hid (aa jp a7 #[.int .i64 0,.bool false,.int .i64 0,.int .i64 0] 71):=by show aa _ _ _ _;rw[c9,dm];exact aa.new _ _ _ _ rfl
   have jr:Hid (i.heap.size<=a7):=by show _<=_;rw[dm];exact b4.out.size
   refine' eJ 71 rfl rfl _ vz (ae b4.out _) ?_;simp only[yQ,yU,yX,yY];rw[<-c9,<-dm];clear c9 dm;refine ag ?_
   (try simp only[reduceIte,Nat.reduceEqDiff,wpTree,attachW,List.getElem?_cons_zero,List.getElem?_cons_succ])
   refine zZ ?_;refine(gq.out _).mono ?_;rintro e rf ⟨rfl,hb⟩;have lx:Hid (af i rf):=ab tb.out hb;have rg:=Lib.hid (rd.out.below hb);clear hb;refine⟨_,rfl,lx.out,jO ?_⟩;refine zZ ?_;refine(d8.out _).mono ?_;rintro e jv ⟨rfl,hb⟩;have ly:Hid (af i jv):=ab lx.out hb;have j0:=Lib.hid (rg.out.below hb);clear hb;refine⟨_,rfl,ly.out,jO ?_⟩;obtain⟨kb,cb⟩:∃g,g=jv.setRow a7 ((gE n c C y).toList).toArray:=⟨_,rfl⟩;have l0:Hid (af i kb):=by show Below _ _ _;rw[cb];exact below_setRow ly.out jr.out _
   have ro:Hid (aa kb a7 ((gE n c C y).toList).toArray 71):=by show aa _ _ _ _;rw[cb];exact aa.set j0.out _
   refine fh 71 rfl _ _ rfl 71 a7 #[.int .i64 0,.bool false,.int .i64 0,.int .i64 0] ((gE n c C y).toList) j0.out rfl rfl Ea rfl (by intro v r;simp only[List.mem_cons,List.not_mem_nil,or_false]at r;rcases r with rfl|rfl|rfl|rfl<;>rfl) (by rw[<-cb];exact l0.out) ?_;rw[<-cb];simp only[yQ,yU,yX,yY];clear cb;refine ag ?_;refine⟨a7,?_,ro.out,l0.out,jr.out⟩;simp only[yQ,yU,yX,yY]
 rintro a' a8 ⟨F,rfl,kc,ex,rs⟩;have a9:Hid (aa a8 F (gE n c C y) 71):=kc;have ey:=Lib.hid ex;have cx:Hid (Below a.heap.size a a8):=ab bd.out ex;clear kc ex rs;simp only[yQ,yU,yX,yY];obtain⟨ac,el⟩:∃ac,ac=V.length:=⟨_,rfl⟩;rw[<-el]at gX s2;have em:=Lib.hid el;clear el;have t5:n4=K.length:=ef.out.hn;obtain⟨q,hq⟩:∃q,q=ac-K.length:=⟨_,rfl⟩;have us:IntKind.i64.wrap ((ac:Int)-(n4:Int))=(q:Int):=by rw[aJ _ oO oO];omega
 have v5:(ac:Int)-(n4:Int)=(q:Int):=oO;have kd:q<=ac:=oO;have v6:IntKind.i64.wrap (q:Int)=(q:Int):=aJ _ oO oO;have m9:Hid (V.length-K.length=q):=by show _=_;rw[<-em.out,hq]
 clear hq t5 gX;have gb:a8.cell? ⟨F,0,none⟩=some (.int .i64 n):=a9.out.cell 0 _ rfl;have gc:a8.cell? ⟨F,1,none⟩=some (.bool c):=a9.out.cell 1 _ rfl;have gd:a8.cell? ⟨F,2,none⟩=some (.int .i64 C):=a9.out.cell 2 _ rfl;have ge:a8.cell? ⟨F,3,none⟩=some (.int .i64 y):=a9.out.cell 3 _ rfl
 go_wp2_with(first
  |(go_at_call 83;refine(oi.out _).mono ?_;rintro e am ⟨db,N,gg,rfl,kf,l1,ez⟩;have en:=Lib.hid gg;have rt:=Lib.hid kf;have l2:=Lib.hid l1;have dn:=Lib.hid ez;have c2:Hid (Below a.heap.size a am):=ab cx.out ez;clear gg kf l1 ez gb gc gd ge;have km:Hid (Below a.heap.size a (am.alloc (.cells (ox n n db N).toArray 28))):=ae c2.out _;obtain⟨Q,T⟩:=s.out _ km.out)
  |(go_at_call 46;refine(oj.out _).mono ?_;rintro e o ⟨v7,rfl,ds,ap⟩;obtain⟨⟨rx,r0,rfl,tl,-,-⟩,-⟩:=id ds;rw[<-em.out]at ds tl;have tp:=Lib.hid ds;have av:=Lib.hid ap;clear ds ap Q T))
 rw[<-em.out];have b6:Hid (Below a.heap.size a o):=ab km.out av.out;obtain⟨U,eq⟩:∃U,U=am.heap.size:=⟨_,rfl⟩;simp only[<-eq];have r1:Hid (aa o U (ox n n db N).toArray 28):=by show aa _ _ _ _;exact(aa.new am _ _ _ eq).below av.out
 have G:Hid (B≠db/\j≠db/\F≠db/\U≠db/\B<o.heap.size/\j<o.heap.size/\F<o.heap.size/\U<o.heap.size/\db<o.heap.size/\w.heap.size<=db/\i.heap.size<=db/\db<am.heap.size+1/\w.heap.size<=o.heap.size):=by
  show _/\_;have ut:=ea.out;have uv:=aw a9.out;have va:=rt.out;have vq:=ey.out.size;have vr:=bd.out.size;have vs:=dn.out.size;have na:=av.out.size;have vv:=aw l2.out;simp at na;omega
 have tr:Hid (bc o db Z):=(l2.out.below (ar _ _)).below av.out;have ts:Hid (aa o F (gE n c C y) 71):=((a9.out.below dn.out).below (ar _ _)).below av.out;have t6:Hid (SR vB false o d4 n4 ce K):=(((ef.out.below ey.out).below dn.out).below (ar _ _)).below av.out;have t7:Hid (SR vB false o d5 ga cg g0):=(((i1.out.below ey.out).below dn.out).below (ar _ _)).below av.out;have r2:Hid (∀E,d4=some E->E.block≠db):=by
  show∀E,_;intro E e;obtain⟨r3,J,ch,-⟩:=ef.out.rd s1.out;rw[e]at J;injection J with J;rw[J];have:=G.out.2.2.2.2.2.2.2.2.2.2.1;omega
 have kp:Hid (∀E,d5=some E->E.block≠db):=by
  show∀E,_;intro E e;obtain⟨r3,J,ch,-⟩:=i1.out.rd s0.out;rw[e]at J;injection J with J;rw[J];have:=G.out.2.2.2.2.2.2.2.2.2.2.1;omega
 have tx:Hid (db<(am.alloc (.cells (ox n n db N).toArray 28)).heap.size):=by show _<_;have:=G.out.2.2.2.2.2.2.2.2.2.2.2.1;simp;omega
 clear eq;have er:Hid (∀W,au db o W->(W.cell? ⟨B,0,none⟩=some (.int .i64 (L:Int))/\W.cell? ⟨B,1,none⟩=some (.bool c))/\(W.cell? ⟨F,0,none⟩=some (.int .i64 (n:Int))/\W.cell? ⟨F,1,none⟩=some (.bool c)/\W.cell? ⟨F,2,none⟩=some (.int .i64 (C:Int))/\W.cell? ⟨F,3,none⟩=some (.int .i64 (y:Int)))/\W.cell? ⟨U,0,none⟩=some (.int .i64 (n:Int))/\W.cell? ⟨U,1,none⟩=some (.int .i64 (n:Int))/\W.cell? ⟨U,2,none⟩=some (.slice (some ⟨db,0,none⟩) N N)):=by
  show∀W,_;intro W O;have ch:=O.row (d9.out.below b6.out) G.out.1;have x:=O.row ts.out G.out.2.2.1;have bq:=O.row r1.out G.out.2.2.2.1;exact⟨⟨ch.cell 0 _ rfl,ch.cell 1 _ rfl⟩,⟨x.cell 0 _ rfl,x.cell 1 _ rfl,x.cell 2 _ rfl,x.cell 3 _ rfl⟩,bq.cell 0 _ rfl,bq.cell 1 _ rfl,bq.cell 2 _ rfl⟩
 obtain⟨ks,kv,kw,bs⟩:∃A' fo c',sliced rx q ac r0 2= .slice A' fo c':=⟨_,_,_,rfl⟩;have mb:Hid (ee (am.alloc (.cells (ox n n db N).toArray 28)).heap.size o (.slice ks kv kw) (V.drop q)):=by
  show ee _ _ _ _;rw[<-bs];exact ee.from tp.out q kd
 rw[m9.out]at k9 gx gN;have e0:Hid (au db o o.drew):=au.below (ak (Below.refl _ _));have k0:N<=100000000:=by have:=en.out;have:n* n<=161* 161:=Nat.mul_le_mul gY gY;omega
 have k1:Hid (N=Z.length):=by show _=_;rw[gy.out];exact en.out
 refine yO (λW=>au db o W) [1,2,3,4,5,6,7,9,0,8,10] e0.out ?_
 repeat refine zO er.out ?_
 refine' zQ rfl (AN rfl rfl q rfl kd bs) e0.out ?_;refine zZ ?_;refine(wT n n db N n4 ce Z (V.drop q) K (.slice ks kv kw) d4 o.drew oO oO k1.out k0 (tr.out.below (ak (Below.refl _ _))) (mb.out.1.below (ak (Below.refl _ _))) (λA m k E e1 e2=>by have x:=mb.out.2 A m k E e1 e2;have bq:=tx.out;omega) (t6.out.below (ak (Below.refl _ _))) r2.out gN.out k9.out).mono ?_;rintro e es ⟨rfl,md,me⟩;have ty:=Lib.hid md;have mk:Hid (au db o es):=e0.out.trans me;clear md me;refine⟨_,rfl,mk.out,jO ?_⟩;refine ag ?_;go_wp2;have e9:Hid (au db o es.drew):=mk.out.trans (au.below (ak (Below.refl _ _)));have t0:Hid (N=(wrL n Z (V.drop q) K).length):=by show _=_;rw[gL.out];exact k1.out
 have sb:Hid (∀p∈eu,df n p<(wrL n Z (V.drop q) K).length):=sv.out _ (by rw[gL.out,gy.out]);refine yO (λW=>au db o W) [1,2,4,0,3,5] e9.out ?_
 repeat refine zO er.out ?_
 refine zZ ?_;refine(ol.out _).mono ?_;rintro e et ⟨v8,rfl,fb,fd⟩;obtain⟨⟨sd,sm,rfl,-,-⟩,-⟩:=id fb;have ml:=Lib.hid fb;have fn:Hid (au db o et):=e9.out.trans (au.below fd);have t1:Hid (bc et db (wrL n Z (V.drop q) K)):=(ty.out.below (ak (Below.refl _ _))).below fd;have t2:Hid (db<es.drew.heap.size):=Nat.lt_of_lt_of_le G.out.2.2.2.2.2.2.2.2.1 e9.out.sz;clear fb fd;refine⟨_,rfl,fn.out,jO ?_⟩;refine zZ ?_;refine(wT n n db N ga cg (wrL n Z (V.drop q) K) eu g0 (.slice sd eu.length sm) d5 et oO oO t0.out k0 t1.out ml.out.1 (λA m k E e1 e2=>by have x:=ml.out.2 A m k E e1 e2;have bq:=t2.out;omega) (t7.out.dX fn.out kp.out) kp.out os.out sb.out).mono ?_;rintro e t ⟨rfl,mm,mp⟩;have t3:Hid (bc t db dl):=by show bc _ _ _;rw[<-gx.out];exact mm
 have dx:Hid (au db o t):=fn.out.trans mp;clear mm mp;refine⟨_,rfl,dx.out,jO ?_⟩;refine ag ?_;obtain⟨⟨Q,T⟩,⟨gb,gc,gd,ge⟩,vA,vG,v0⟩:=er.out t dx.out;have H:Hid (aa t j aI 30):=dx.out.row (o2.out.below b6.out) G.out.2.1;have c0:t.cell? ⟨j,0,none⟩=some (.int .i64 0):=H.out.cell 0 _ rfl;have c1:t.cell? ⟨j,1,none⟩=some (.bool false):=H.out.cell 1 _ rfl;have f9:t.cell? ⟨j,2,none⟩=some (.int .i64 0):=H.out.cell 2 _ rfl;have nb:t.cell? ⟨j,3,none⟩=some (.int .i64 0):=H.out.cell 3 _ rfl;have ce:t.cell? ⟨j,4,none⟩=some (.int .i64 0):=H.out.cell 4 _ rfl;have cg:t.cell? ⟨j,5,none⟩=some (.slice none 0 0):=H.out.cell 5 _ rfl;have nc:t.frozen? ⟨j,0,none⟩=false:=frozen_of_row _ _ _ _ _ H.out;have nl:t.frozen? ⟨j,1,none⟩=false:=frozen_of_row _ _ _ _ _ H.out;have no:t.frozen? ⟨j,2,none⟩=false:=frozen_of_row _ _ _ _ _ H.out;have np:t.frozen? ⟨j,3,none⟩=false:=frozen_of_row _ _ _ _ _ H.out;have nx:t.frozen? ⟨j,4,none⟩=false:=frozen_of_row _ _ _ _ _ H.out;have n0:t.frozen? ⟨j,5,none⟩=false:=frozen_of_row _ _ _ _ _ H.out;have sn:Hid (Below w.heap.size w t):=(g1.out.trans (b6.out.mono ea.out.2.2.2)).trans (dx.out.to G.out.2.2.2.2.2.2.2.2.2.1 G.out.2.2.2.2.2.2.2.2.2.2.2.2);have be:w.heap.size<=j:=ea.out.1;go_wp2;refine bodyPost_ret (v:= .tuple #[og L c m n db N,.int .i64 0]) (by simp[results,Tryz.results35,go_sem,c0,c1,f9,nb,ce,cg,nc,nl,no,np,nx,n0]) rfl ⟨db,N,en.out,rfl,?_,G.out.2.2.2.2.2.2.2.2.2.1,?_⟩
 ·have bb:db≠j:=(G.out.2.1).symm;exact aa.bw (aa.bw (aa.bw (aa.bw (aa.bw (aa.bw t3.out _ _ bb) _ _ bb) _ _ bb) _ _ bb) _ _ bb) _ _ bb
 ·exact(((((sn.out.setCell be _).setCell be _).setCell be _).setCell be _).setCell be _).setCell be _
abbrev tf (W H:Int) (A:Option Addr) (N a:Nat):Value:= .agg #[.int .i64 W,.int .i64 H,.slice A N a]
abbrev mI (W H:Int) (A:Option Addr) (N a:Nat):Array Value:=#[.int .i64 W,.int .i64 H,.slice A N a]
theorem bc.own {w:World} {db n base:Nat} {l:List Bool} (h:bc w db l) (hn:n=l.length) (a:n<=maxLen) (hb:base<=db):w.ownsRow base 4 1 (.slice (some ⟨db,0,none⟩) n n) n (l.map vB):=
 ⟨by simp[hn],.inr ⟨db,n,(l.map vB).toArray,rfl,hb,h,Nat.le_refl _,a,by simp[hn],by show List.take (n* 1) (l.map vB)=_;exact List.take_of_length_le (by simp[hn])⟩⟩
theorem vd {a d i e:World} {b g B:List Bool} {f n m:Nat} {v:Value} (l:bc d f b) (hn:b.length=n) (o:g.length=m) (p:a.heap.size<=f) (r:Below a.heap.size a d) (s:Below d.heap.size d i) (hl:n<=maxLen) (t:b++g=B)
 (j:e.ownsRow a.heap.size 4 1 v (n+m) ((b++g).map vB)) (hg:i.grownBy e (Value.slice (some ⟨f,0,none⟩) n n).ownBlock):Below a.heap.size a e/\∃A k c,v= .slice A k c/\SR vB false e A k c B:=by
 subst t hn o;have q:=l.own rfl hl p;have u:OG vB 4 a d (.slice (some ⟨f,0,none⟩) b.length b.length) b:=⟨r,q⟩;exact⟨(u.grow s j hg).B,(SG.bU j).parts⟩
def RO (w:World) (g cap:Nat) (l:List Bool):Prop:=cap<=maxLen/\∃R:List Value,l.length+R.length=cap/\aa w g (l.map vB++R).toArray 4
theorem RO.below {w W:World} {g cap:Nat} {l:List Bool} (h:RO w g cap l) (hb:Below w.heap.size w W):RO W g cap l:=⟨h.1,h.2.elim λR a=>⟨R,a.1,a.2.below hb⟩⟩
theorem RO.lt {w:World} {g cap:Nat} {l:List Bool} (h:RO w g cap l):g<w.heap.size:=h.2.elim λR a=>aw a.2
theorem RO.le {w:World} {g cap:Nat} {l:List Bool} (h:RO w g cap l):l.length<=cap:=h.2.elim λR a=>by omega
theorem RO.cell {w:World} {g cap:Nat} {l:List Bool} (h:RO w g cap l) {i:Nat} (a:i<l.length):w.cell? ⟨g,i,none⟩=some (.bool (l.getD i false)):=by
 obtain⟨R,c,b⟩:=h.2;refine aa.cell b i _ ?_;have:i<(l.map vB).length:=by simpa using a
 simp[List.getD,a,vB,List.getElem?_append_left this]
theorem RO.frozen {w:World} {g cap i:Nat} {l:List Bool} (h:RO w g cap l):w.frozen? ⟨g,i,none⟩=false:=h.2.elim λR a=>frozen_of_row _ _ _ _ _ a.2
theorem RO.set {w:World} {g cap:Nat} {l:List Bool} (h:RO w g cap l) {i:Nat} (a:i<l.length) (b:Bool):RO (w.setCell ⟨g,i,none⟩ (.bool b)) g cap (l.set i b):=by
 obtain⟨R,c,d⟩:=h.2;refine⟨h.1,R,by rw[List.length_set];exact c,?_⟩;have:=heap_setCell_same w g i _ _ (.bool b) d;unfold aa;rw[this];have e:i<(l.map vB).length:=by simpa using a
 simp[List.map_set,vB,List.set_append_left _ _ e]
theorem RO.sr {w:World} {g cap n:Nat} {l:List Bool} (h:RO w g cap l) (hn:n=l.length):SR vB false w (some ⟨g,0,none⟩) n cap l:=
 ⟨hn,by have:=h.le;omega,h.1,λ_=>⟨⟨g,0,none⟩,rfl,h.lt,λj a=>by rw[add_plain,Nat.zero_add];exact h.cell a⟩⟩
theorem RO.bU {w:World} {base n:Nat} {v:Value} {l:List Bool} (h:w.ownsRow base 4 1 v n (l.map vB)) (i:0<n):∃g cap,v= .slice (some ⟨g,0,none⟩) n cap/\n=l.length/\base<=g/\RO w g cap l:=by
 obtain⟨hl,b|⟨g,cap,a,rfl,hb,hg,hc,c,hs,d⟩⟩:=h
 ·exact absurd b.2 oO
 ·have hn:n=l.length:=by simpa using hl.symm
  refine⟨g,cap,rfl,hn,hb,c,a.toList.drop n,?_,?_⟩
  ·have f:a.toList.length=cap:=by simpa using hs
   rw[List.length_drop,f];omega
  ·have e:l.map vB++a.toList.drop n=a.toList:=by rw[<-d,Nat.mul_one];exact List.take_append_drop _ _
   unfold aa;rw[e];exact hg
theorem tv (n g cap N a:Nat) (H x y:Int) (b:Bool) (l:List Bool) (w:World) (hn:n<=1000) (p:N=l.length) (B:-1000<=x/\x<=1000) (j:-1000<=y/\y<=1000) (r:y* (n:Int)+x=(a:Int)) (k:a<l.length) (d:RO w g cap l):
 Calls Tryz.prog 107 #[tf n H (some ⟨g,0,none⟩) N cap,.int .i64 x,.int .i64 y,.bool b] w λe w'=>e= .returned (.tuple #[])/\RO w' g cap (l.set a b)/\au g w w':=by
 obtain⟨c,f⟩:∃c,c=w.alloc (.cells (mI n H (some ⟨g,0,none⟩) N cap) 28):=⟨_,rfl⟩;have m:Hid (Below w.heap.size w c):=by show Below _ _ _;rw[f];exact ar _ _
 have o:Hid (aa c w.heap.size (mI n H (some ⟨g,0,none⟩) N cap) 28):=by show aa _ _ _ _;rw[f];exact aa.new _ _ _ _ rfl
 have i:Hid (RO c g cap l):=d.below m.out;have G:l.length<=9223372036854775807:=by have:=d.le;have:=d.1;unfold maxLen at*;omega
 obtain⟨q,hq⟩:∃q,q=y* (n:Int):=⟨_,rfl⟩;have J:-1000000<=q/\q<=1000000:=by
  rw[hq];have C:y* (n:Int)<=1000* (n:Int):=Int.mul_le_mul_of_nonneg_right j.2 oO;have D:(-1000)* (n:Int)<=y* (n:Int):=Int.mul_le_mul_of_nonneg_right j.1 oO;omega
 have K:y* (n:Int)=q:=hq.symm;have E:IntKind.i64.wrap q=q:=aJ _ oO oO;have F:IntKind.i64.wrap (q+x)=(a:Int):=by rw[aJ _ oO oO];omega
 have L:(a:Int)<(N:Int):=oO;have t:=o.out.cell 0 _ rfl;have u:=o.out.cell 2 _ rfl;have v:=i.out.cell k;have z:c.frozen? ⟨g,a,none⟩=false:=i.out.frozen;have A:Hid (RO (c.setCell ⟨g,a,none⟩ (.bool b)) g cap (l.set a b)):=i.out.set k b;have s:Hid (au g w (c.setCell ⟨g,a,none⟩ (.bool b))):=(au.below m.out).trans (au.cY _);clear d hq r p;rw[f]at t u v z;go_enter Tryz.func107,Tryz.ntmps107;go_wp2;rw[<-f];refine bodyPost_end (results_none rfl _ _ _) rfl ?_;exact⟨rfl,A.out,s.out⟩
def jy (s:Int):List Int:=[-s,-s,-s+1,-s,-s,-s+1,s,-s,s,-s+1,s,s-1,s-1,-s,s,s,s-1,s,-s,s,-s+1,s,-s,s-1]
theorem EB (c:Bool) (w:World):Calls Tryz.prog 126 #[.bool c] w λe w'=>∃b,e= .returned (.slice (some ⟨b,0,none⟩) 12 12)/\w.heap.size<=b/\aa w' b ((jy ((bD c:Nat):Int)).map (Value.int .i64)).toArray 47/\Below w.heap.size w w':=by
 have d:∀a,Hid (Below w.heap.size w (w.alloc a)):=λa=>ar w a;cases c<;>(go_enter Tryz.func126,Tryz.ntmps126;go_wp2;go_ret;exact⟨_,rfl,Nat.le_refl _,aa.new _ _ _ _ rfl,ar _ _⟩)
end
end Go.Proofs.YtmnlkganmgcpbaaGreatDoor
