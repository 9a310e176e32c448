import Derived.Test.YtmnlkganmgcpbaaGreatDoorQi26
import Derived.Test.YtmnlkganmgcpbaaGreatDoorQi9
set_option maxRecDepth 100000
set_option maxHeartbeats 4000000
set_option linter.unusedVariables false
set_option linter.unusedSectionVars false
set_option linter.unusedSimpArgs false
set_option linter.defProp false
open Go.Value renaming int->I
open Go.IntKind renaming i64->J
open Bool renaming false->R,true->wP,true_and->VT
open Option renaming none->U,some->gk,getD_some->HL
open Go renaming World->wR,Calls->wS
open Go.Proofs.Tryz renaming prog->w1,underlying26->HE
open Go.RowKit renaming Hid->w2
open Go.RowKit.Below renaming refl->w3
open List renaming getElem?_cons_zero->w7,getElem?_cons_succ->w8,getElem?_eq_getElem->yv,replicate->y0,range->y3,not_mem_nil->Ay,mem_cons->AQ,take_zero->A0,map_congr_left->A9,getElem_mem->C4,ext_getElem->Um,setIfInBounds_toArray->Vb,set_cons_zero->Vs,set_cons_succ->V2,getElem_set->W5
open Nat renaming zero_le->x1,lt_of_lt_of_le->x6,zero_add->B3
open Go.Proofs.Tryz
namespace Go.Proofs.YtmnlkganmgcpbaaGreatDoor
section
open Fl
theorem kT {s p d first:Nat} {w:List Nat} {a:Option (List Nat)} (h:ei s p d first w a):yp s p d first w=a:=by
 unfold yp;split
 ·rename_i b
  exact(h.1 _ (Classical.choose_spec b)).symm
 ·rename_i b
  cases a with
  |none=>rfl
  |some v=>exact absurd ⟨v,h.2 v rfl⟩ b
section
variable {c s p : Nat} (h : VF c s p)
include h
end
end
section
open Go.RowKit
noncomputable def dS (a:List UInt8):List Bool:=@dite _ (∃b,dK (bA a) b) (Classical.propDecidable _) (λh=>yD (bA a) (Classical.choose h)) (λ_=>[])
theorem ss {b:List UInt8} {a:Nat->Nat->Nat} (hl:b.length<=4096) (h:dK (bA b) a):dS b=yD (bA b) a:=by
 unfold dS;rw[dif_pos ⟨a,h⟩];exact(Af (by rw[iD];exact hl) (Classical.choose_spec (⟨a,h⟩:∃a,dK (bA b) a)) h).1
theorem DO {l:List UInt8} {a:Nat->Nat->Nat} (hl:l.length<=2078) (h:dK (bA l) a):(dS l).length<=8* l.length+21:=by
 have hs:(bA l).size<=4096:=by rw[iD];omega
 rw[ss oO h,yo hs h];exact JB hl (h.ac hs)
def yg (L:Nat) (c:Bool) (k size a:Nat):Bool:=decide (k<=kA c)&&decide (aw L* k+size* a/100+11<=aw L* aJ L c)
def tA (c:Bool):List (Nat×Bool):=(y3 4).map (λa=>(a+1,wP))++(if c=wP then[]else(y3 29).map λa=>(a+4,R))
def I5 (a:Nat) (b:Bool):List (Nat×Bool):=if a=0 then tA b else[(a,b)]
def l6 (b:List Bool) (c:Nat) (a:Nat×Bool):Bool:=yg a.1 a.2 (bm b (aw a.1)).length b.length c
def iX (a:List Bool) (d b:Nat) (c:Bool):Option (Nat×Bool):=(I5 b c).find? (l6 a d)
noncomputable def oF (L:Nat) (c:Bool) (k:Nat):List Bool:=bE (jY 16 19 (fS c) 1 (aW (bH (L-1) (gI c)++bH (k-1) (jw c)) 4 (if c=wP then 2 else 4))) 4
noncomputable def Bk (L:Nat) (c:Bool) (a:List Nat):List Nat:=jY (2^aw L) (kK (aw L)) (aJ L c-a.length) 1 a
noncomputable def pN (L:Nat) (c:Bool) (a:List Nat):List Bool:=bE (Bk L c a) (aw L)
noncomputable def ny (L:Nat) (c:Bool) (a:List Nat):List Bool:=NW L c (pN L c a) (oF L c a.length)
def qz (n:Nat) (a:Int) (c:Bool) (b:Int):Int:=if 4096<n then 4 else if n=0 then 5 else if a≠0/\eH a c=R then 14 else if b<5\/90<b then 3 else 0
noncomputable def uZ (a:List UInt8) (b:Int) (c:Bool) (d:Int):Option (Nat×Bool)×Int:=
 if qz a.length b c d≠0 then(U,qz a.length b c d)else match iX (dS a) d.toNat b.toNat c with
  |some e=>(gk e,0)
  |none=>(U,16)
def cU (W H:Int) (N:Nat):Bool:=decide (1<=W)&&decide (W<=4096)&&decide (1<=H)&&decide (H<=4096)&&decide (W* H<=4194304)&&decide ((N:Int)=W* H)
def dh (n:Nat) (c:Bool):Bool:=(y3 32).any λa=>eH ((a+1:Nat):Int) c&&(aB (a+1) c==n)
def gn (n b:Nat) (c:Bool) (d:List Bool):Bool:=(y3 (n* n)).all λa=>!(decide (lQ b (a%n,a/n)<bu c))||(d.getD a R==(lQ b (a%n,a/n)%2==0))
def lF (n a:Nat) (c:Bool) (d:List Bool):Bool:=(fq n d (b8 a (bu c))==j6)&&(fq n d (bQ a (bu c))==nU)
def jJ (n:Nat) (d:List Bool):Option Bool:=if(dh n R&&gn n ((n-1)/2) R d)=wP then gk R else if(dh n wP&&gn n ((n-1)/2) wP d)=wP then gk wP else U
noncomputable def nv (c:Bool) (b:List Bool):Option (Nat×Nat):=(yp 16 19 (fS c) 1 (aW b 4 (b.length/4))).map λv=>(ba (bE v 4) 0 (gI c)+1,ba (bE v 4) (gI c) (jw c)+1)
def rk (n L:Nat) (c:Bool) (d:List Bool):List Nat:=aW ((fq n d (cO L c)).drop ((cO L c).length-aJ L c* aw L)) (aw L) (aJ L c)
noncomputable def pZ (v a:List Nat) (k w:Nat):List UInt8×Int×Int:=
 if(aC (zN (v.take k)) w).2≠0 then([],0,(aC (zN (v.take k)) w).2)
 else if(cV (aC (zN (v.take k)) w).1).2≠0 then([],0,(cV (aC (zN (v.take k)) w).1).2)
 else((cV (aC (zN (v.take k)) w).1).1,((cf a v).length:Int),0)
noncomputable def lp (n L:Nat) (c:Bool) (k:Nat) (d:List Bool):List UInt8×Int×Int:=
 match yp (2^aw L) (kK (aw L)) (aJ L c-k) 1 (rk n L c d)with
 |none=>([],0,17)
 |some v=>pZ v (rk n L c d) k (aw L)
noncomputable def pc (n:Nat) (d:List Bool) (c:Bool):List UInt8×Int×Int:=
 if lF n ((n-1)/2) c d=R then([],0,18)else match nv c (fq n d (dZ ((n-1)/2) c))with
  |none=>([],0,21)
  |some q=>if(eH (q.1:Int) c&&(aB q.1 c==n)&&decide (q.2<aJ q.1 c))=wP then lp n q.1 c q.2 d else([],0,21)
noncomputable def dF (W H:Int) (d:List Bool):List UInt8×Int×Int:=
 if cU W H d.length=R then([],0,1)
 else if W≠H\/(dh W.toNat wP=R/\dh W.toNat R=R)then([],0,23)
 else match jJ W.toNat d with
  |none=>([],0,18)
  |some c=>pc W.toNat d c
theorem Rq:nW 4:= .inl rfl
theorem Dm (c:Bool):eD 2 16 19 (fS c) 1:=D2 (w:=4) Rq (by cases c<;>decide) (by cases c<;>decide)
def nZ (c:Bool):Nat:=if c=wP then 2 else 4
theorem Pa (L:Nat) (c:Bool) (k:Nat):oF L c k=bE (jY 16 19 (fS c) 1 (aW (bH (L-1) (gI c)++bH (k-1) (jw c)) 4 (nZ c))) 4:=rfl
theorem oH (L:Nat) (c:Bool) (b:1<=L) (a:L<=32):15<=aB L c/\aB L c<=161:=by
 have h:=eI (c:=c) a;have d:=su (c:=c) b a;have e:=JE c;omega
theorem bF.sr {w:wR} {db:Nat} {a:List Bool} (h:bF w db a) {n:Nat} (hn:n=a.length) (b:n<=maxLen):SR vB R w (gk ⟨db,0,U⟩) n n a:=
 ⟨hn,Nat.le_refl _,b,λ_=>⟨⟨db,0,U⟩,rfl,ay h,λd c=>by rw[add_plain,B3];exact h.cell c⟩⟩
theorem Kq (n:Nat):madeCells (Value.bool R).cells n=((y0 n R).map vB).toArray:=by
 show madeCells #[Value.bool R] n=_;apply Array.ext';simp only[madeCells,Array.toList_map,vB,List.map_replicate];apply Um oS;intro a b c;simp[Nat.mod_one]
theorem tW (n:Nat) (hn:n<=100000000) (W:wR):(Instr.makeSlice 26 (I J (n:Int)) (I J (n:Int))).run w1 W= .ok (.slice (gk ⟨W.heap.size,0,U⟩) n n) (W.alloc (.cells ((y0 n R).map vB).toArray 4)):=by
 obtain⟨a,b,c,d,e⟩:=info_parts fF;have h:=run_make (P:=w1) W 26 4 a (.bool R) HE b c .i64 .i64 (n:Int) (n:Int) oO oO (by rw[e];omega) oO;rw[d,Nat.mul_one]at h;simp only[Int.toNat_natCast]at h;rw[Kq]at h;exact h
theorem bF.new (W:wR) (a:List Bool):bF (W.alloc (.cells (a.map vB).toArray 4)) W.heap.size a:=ag.new _ _ _ _ oS
theorem FA (v n:Nat):∀k,dV v n k=(y3 k).map λa=>gV v (n-1-a)
 |0=>rfl
 |k+1=>by
  show dV v n k++[gV v (n-1-k)]=_;rw[FA v n k,List.range_succ,List.map_append];rfl
def pR (v n k:Nat):List Bool:=(y3 n).map λa=>decide (n-k<=a)&&gV v (n-1-a)
theorem O6 (v n:Nat):pR v n 0=y0 n R:=by
 unfold pR;apply Um oS;intro a b c;simp at b;simp[show¬n<=a from by omega]
theorem Rg (v n:Nat):pR v n n=bH v n:=by
 unfold pR bH;rw[FA];apply A9;intro a _;simp
theorem pY (v n k:Nat):(pR v n k).length=n:=by unfold pR;simp
theorem Hp {v n k a:Nat} (h:a<(pR v n k).length):(pR v n k)[a]=(decide (n-k<=a)&&gV v (n-1-a)):=by simp[pR]
theorem NL {v n k:Nat} (d:k<n):(pR v n k).set (n-1-k) (gV v k)=pR v n (k+1):=by
 apply Um (by rw[List.length_set,pY,pY]);intro a e b;have c:=b;rw[pY]at c;rw[W5,Hp b];by_cases h:n-1-k=a
 ·subst h;rw[if_pos rfl,show n-1-(n-1-k)=k from by omega,decide_eq_true oO,VT]
 ·rw[if_neg h,Hp];have:decide (n-k<=a)=decide (n-(k+1)<=a):=by rw[decide_eq_decide];omega
  rw[this]
theorem Es (v n:Nat) (w:wR) (s:v<=1000000000000) (hn:n<=62):
 wS w1 118 #[I J v,I J n] w λe g=>∃db,e= .returned (.slice (gk ⟨db,0,U⟩) n n)/\db=w.heap.size/\bF g db (bH v n)/\af w g:=by
 obtain⟨db,d⟩:∃db,db=w.heap.size:=⟨_,rfl⟩;have m:=tW n oO w;rw[<-d]at m;have o:w2 (bF (w.alloc (.cells ((y0 n R).map vB).toArray 4)) db (y0 n R)):=by show bF _ _ _;rw[d];exact bF.new _ _
 have p:w2 (af w (w.alloc (.cells ((y0 n R).map vB).toArray 4))):=ax _ _;have q:=aa d;generalize w.alloc (.cells ((y0 n R).map vB).toArray 4)=F at*;clear d;go_enter func118,ntmps118;go_wp2;clear m;go_loopw [0,6] (λt f wr=>∃(k x:Nat) (b:Int),k<=n/\t=I J x/\f=I J b/\w2 (b=(n:Int)-1-k)/\x<=1000000000000/\w2 (x=v/2^k)/\w2 (bF wr db (pR v n k))/\w2 (af w wr)) (λ_ f _=>(intOf f+1).toNat)
 case atStart=>exact⟨0,v,_,x1 _,rfl,rfl,by show _=_;omega,s,by show _=_;rw[Nat.pow_zero,Nat.div_one],by show bF _ _ _;rw[O6];exact o.out,p.out⟩
 case round=>
  clear o p;obtain⟨k,x,b,G,rfl,rfl,i,H,j,c,hB⟩:=hrel;by_cases z:k<n
  ·obtain⟨a,r⟩:∃a,a=n-1-k:=⟨_,rfl⟩;obtain rfl:b=(a:Int):=by have:=i.out;omega
   have l:=aa r;have A:a<n:=oO;have K:a<=61:=oO;have B:w2 ((pR v n k).set a (gV v k)=pR v n (k+1)):=by show _=_;rw[l.out];exact NL z
   have O:((x:Int)%2==1)=gV v k:=by
    unfold gV;rw[<-j.out,Bool.eq_iff_iff];simp;omega
   have L:wr.cell? ⟨db,a,U⟩=gk (.bool ((pR v n k).getD a R)):=c.out.cell (by rw[pY];exact A);have M:=bN (a) c.out;have C:w2 (x/2=v/2^(k+1)):=by show _=_;rw[j.out,Nat.div_div_eq_div_mul,Nat.pow_succ]
   generalize gV v k=y at*;have E:w2 (bF (wr.setCell ⟨db,a,U⟩ (.bool y)) db (pR v n (k+1))):=by show bF _ _ _;rw[<-B.out];exact c.out.set a y
   have D:w2 (af w (wr.setCell ⟨db,a,U⟩ (.bool y))):=hB.out.setCell (by rw[q.out];exact Nat.le_refl _) _;clear r;go_wp2;exact⟨⟨k+1,x/2,_,by omega,by go_num,rfl,by have:=l.out;show _=_;omega,by omega,C.out,E.out,D.out⟩,by simp[intOf]⟩
  ·obtain rfl:k=n:=oO;have N:decide ((0:Int)<=b)=R:=by have:=i.out;simp;omega
   have u:w2 (bF wr db (bH v k)):=by show bF _ _ _;rw[<-Rg];exact c.out
   go_wp2;go_ret;exact⟨db,rfl,q.out,u.out,hB.out⟩
theorem mu (A:Option Addr) (n c:Nat) (b:List Bool) (w:wR) (hn:n<=40) (hb:SR vB R w A n c b):
 wS w1 72 #[.slice A n c] w λe p=>e= .returned (I J ((ba b 0 n:Nat):Int))/\p=w:=by
 have q:=aa hb;have i:w2 (n=b.length):=hb.hn;clear hb;go_enter func72,ntmps72;go_wp2;go_loop [3,4] (λr f=>∃k x:Nat,k<=n/\f=I J k/\r=I J x/\x<=2199023255552/\w2 (x=ba b 0 k)) (λ_ f=>n-(intOf f).toNat)
 case atStart=>exact⟨0,0,x1 _,rfl,rfl,by omega,rfl⟩
 case round=>
  obtain⟨k,x,v,rfl,rfl,z,j⟩:=hrel;by_cases u:k<n
  ·obtain⟨B,rfl,D,o⟩:=q.out.rd (by rw[<-i.out];omega);have C:=o k (by rw[<-i.out];exact u);clear o;have l:w2 (∀y,b.getD k R=y->ba b 0 (k+1)=2* x+(if y then 1 else 0)):=by
    show∀y,_;rintro y rfl;rw[j.out];show 2* _+(if b.getD (0+k) R then 1 else 0)=_;rw[B3]
   generalize b.getD k R=y at*;have s:2^(k+1)<=2^40:=Nat.pow_le_pow_right oO oO;have a:=eS b 0 (k+1);have t:(2:Nat)^40=1099511627776:=by decide
   have m:ba b 0 (k+1)<=1099511627776:=oO;clear a s t;cases y with
   |true=>
    have d:=aa (l.out wP rfl);have g:2* x+1<=2199023255552:=by
     have a:=d.out;simp only[if_true]at a;omega
    clear m;go_wp2;exact⟨⟨k+1,2* x+1,by omega,by go_num,by go_num,g,d.out.symm⟩,by simp[intOf];omega⟩
   |false=>
    have d:=aa (l.out R rfl);have g:2* x<=2199023255552:=by
     have a:=d.out;simp only[Bool.false_eq_true,if_false]at a;omega
    clear m;go_wp2;exact⟨⟨k+1,2* x,by omega,by go_num,by go_num,g,d.out.symm⟩,by simp[intOf];omega⟩
  ·obtain rfl:k=n:=oO;go_wp2;go_ret;exact⟨by rw[<-j.out];rfl,rfl⟩
theorem rA (A:Option Addr) (n c s m:Nat) (b:List Bool) (w:wR) (ab:1<=s) (hs:s<=12) (k:n=m* s) (hn:n<=100000) (hb:SR vB R w A n c b):
 wS w1 70 #[.slice A n c,I J s] w λe g=>∃v,e= .returned v/\SG vN 0 g v (aW b s m)/\af w g:=by
 obtain⟨u,y,G,H,K⟩:=info_parts cT;have i:=aa hb;have p:=aa k;have ac:m<=n:=by rw[k];exact Nat.le_mul_of_pos_right m oO
 clear hb k;go_enter func70,ntmps70;go_wp2;go_loopw [5,6] (λz l wr=>∃d a:Nat,d<=m/\a<=n/\l=I J a/\w2 (a=d* s)/\w2 (OG vN 3 w wr z (aW b s d))) (λ_ l _=>n-(intOf l).toNat)
 case atStart=>exact⟨0,0,x1 _,x1 _,rfl,by show _=_;rw[Nat.zero_mul],OG.start _ _⟩
 case round=>
  obtain⟨d,a,ad,al,rfl,j,f⟩:=hrel;obtain⟨E,o⟩:∃E,E=a+s:=⟨_,rfl⟩;have am:(a:Int)+(s:Int)=(E:Int):=oO;by_cases ap:d<m
  ·have L:E<=n:=by
    have Y:=j.out;have Z:=p.out;have B:(d+1)* s<=m* s:=Nat.mul_le_mul_right s oO;rw[Nat.add_mul,Nat.one_mul]at B;omega
   have M:=aa (i.out.below f.out.B);have N:=i.out.hc;obtain⟨C,rfl,-,-⟩:=i.out.rd (by rw[<-i.out.hn];omega);have O:w2 (a<=E):=by show _<=_;omega
   have P:w2 (E<=c):=by show _<=_;omega
   have Q:w2 (a<c):=by show _<_;omega
   have S:w2 (E-a=s):=by show _=_;omega
   have T:w2 (E=(d+1)* s):=by show _=_;rw[o,j.out,Nat.add_mul,Nat.one_mul]
   have V:w2 (wS w1 72 #[.slice (gk (C.add a)) s (c-a)] wr λe g=>e= .returned (I J ((ba b a s:Nat):Int))/\g=wr):=by
    show wS _ _ _ _ _;rw[<-kB];exact mu _ s _ _ wr oO (M.out.piece a s _ oO oO oO)
   have W:w2 (aW b s (d+1)=aW b s d++[ba b a s]):=by show _=_;rw[xm,j.out]
   have q:w2 ((aW b s d).length<=100000):=by show _<=_;rw[ej];omega
   generalize ba b a s=x at*;have a0:a<n:=oO;clear N o
   go_wp2_with(first
    |((with_reducible show wpList _ _ _ (⟨_,Op.slice 26 _ _ _ _,_,_,_,_⟩::_) _ _);refine k6 rfl (rG rfl rfl rfl rfl a E rfl rfl O.out P.out Q.out) ?_;rw[S.out])
    |(go_at_call 72;refine V.out.mono ?_;rintro e g ⟨rfl,r⟩;rw[r];clear r)
    |(at_builtin;refine aY (f:=vN) (d:=0) uf rfl _ _ _ rfl w.heap.size 3 u _ 8 underlying64 y G H K rfl _ (aW b s d).length (aW b s d) rfl (aq f.out.O (ax _ _)) (gk ⟨wr.heap.size,0,U⟩) 1 1 [x] rfl rfl (RG.one _ _ _ _ rfl) (by have:=q.out;unfold maxLen;omega) (by have:=q.out;omega) (by have:=f.out.B.size;simp;omega) ?_;intro v1 D t hg;have F:w2 (OG vN 3 w D v1 (aW b s d++[x])):=f.out.grow (ax _ _) t hg;clear t hg))
   exact⟨⟨d+1,E,by omega,L,by go_num,T.out,by show OG _ _ _ _ _ _;rw[W.out];exact F.out⟩,by simp[intOf];omega⟩
  ·obtain rfl:d=m:=oO;have X:a=n:=by rw[j.out,p.out]
   have av:decide (E<=n)=R:=by simp;omega
   clear o X;go_wp2;go_ret;exact⟨_,rfl,f.out.sg,f.out.B⟩
theorem zu (A:Option Addr) (n c s:Nat) (b:List Nat) (w:wR) (W:1<=s) (hs:s<=12) (hn:n<=8000) (hl:ak (2^s) b) (hb:SR vN 0 w A n c b):
 wS w1 71 #[.slice A n c,I J s] w λe k=>∃v,e= .returned v/\SG vB R k v (bE b s)/\af w k:=by
 obtain⟨t,u,H,K,L⟩:=info_parts fF;have y:=aa hb;have f:w2 (n=b.length):=hb.hn;have z:=aa hl;have Y:n<=9223372036854775807:=oO;clear hb hl;go_enter func71,ntmps71;go_wp2;go_loopw [5,6] (λB g wr=>∃a:Nat,a<=n/\g=I J a/\w2 (OG vB 4 w wr B (bE (b.take a) s))) (λ_ g _=>n-(intOf g).toNat)
 case atStart=>exact⟨0,x1 _,rfl,OG.start _ _⟩
 case round=>
  obtain⟨a,X,rfl,d⟩:=hrel;by_cases l:a<n
  ·obtain⟨S,rfl,Q,m⟩:=(y.out.below d.out.B).rd (by rw[<-f.out];omega);have T:=m a (by rw[<-f.out];exact l);have C:w2 (b.getD a 0<2^s):=z.out a;have i:w2 (bE (b.take (a+1)) s=bE (b.take a) s++bH (b.getD a 0) s):=zD b s (by rw[<-f.out];exact l);have o:w2 ((bE (b.take a) s).length<=100000000):=by
    show _<=_;rw[dQ,List.length_take];have:min a b.length* s<=8000* 12:=Nat.mul_le_mul oO hs;omega
   generalize b.getD a 0=x at*;have M:x<=1000000000000:=by have D:=C.out;have E:=oc hs;omega
   have N:=aa (Es x s wr M oO);clear m Q
   go_wp2_with(first
    |(go_at_call 118;refine N.out.mono ?_;rintro e V ⟨db,rfl,O,p,q⟩;have P:=aa p;have j:=aa q;clear p q O)
    |(at_builtin;refine aY (f:=vB) (d:=R) tu rfl _ _ _ rfl w.heap.size 4 t _ 1 HE u H K L rfl _ (bE (b.take a) s).length (bE (b.take a) s) rfl (aq d.out.O j.out) (gk ⟨db,0,U⟩) s s (bH x s) rfl (cn _ _).symm (P.out.sr (cn _ _).symm oM).rd (by have:=o.out;unfold maxLen;omega) (by have:=o.out;omega) (by have D:=d.out.B.size;have E:=j.out.size;omega) ?_;intro v1 F r hg;have G:w2 (OG vB 4 w F v1 (bE (b.take a) s++bH x s)):=d.out.grow j.out (by rw[cn];exact r) hg;clear r hg))
   exact⟨⟨a+1,by omega,by go_num,by show OG _ _ _ _ _ _;rw[i.out];exact G.out⟩,by simp[intOf];omega⟩
  ·obtain rfl:n=a:=oO;have i:w2 (b.take n=b):=by show _=_;rw[f.out,List.take_length]
   go_wp2;go_ret;exact⟨_,rfl,by have h:=d.out.sg (d:=R);rw[i.out]at h;exact h,d.out.B⟩
theorem SP.lit (W:wR) (a:List Pt) (c:TypeId) (b n:Nat) (hb:b=W.heap.size) (hn:n=a.length) (j:n<=maxLen):SP (W.alloc (.cells (a.flatMap fZ).toArray c)) (.slice (gk ⟨b,0,U⟩) n n) a:=by
 subst hb hn;refine⟨_,_,rfl,Nat.le_refl _,j,λ_=>⟨_,0,rfl,by simp,λi k=>?_⟩⟩;have h:=Ds a i k;have e:=gL W a c _ _ h.1;have g:=gL W a c _ _ h.2;rw[add_plain,B3]at e g;rw[B3,Nat.mul_comm];exact⟨e,g⟩
theorem ra (s d m:Nat) (c:Bool) (w:wR) (K:m<=d) (M:d<=1000000) (L:5<=m):wS w1 88 #[dR s c d m] w λe p=>∃v u,e= .returned (.tuple #[v,u])/\fR w.heap.size p v (b8 d m)/\fR w.heap.size p u (bQ d m)/\af w p:=by
 obtain⟨a,q⟩:∃a,a=d-m:=⟨_,rfl⟩;obtain⟨g,r⟩:∃g,g=d-m+1:=⟨_,rfl⟩;obtain⟨b,hb⟩:∃b,b=d+m:=⟨_,rfl⟩;obtain⟨j,t⟩:∃j,j=d+m-1:=⟨_,rfl⟩;have e1:(d:Int)-(m:Int)=(a:Int):=oO;have e2:(a:Int)+1=(g:Int):=oO;have e3:(d:Int)+(m:Int)=(b:Int):=oO;have e4:(b:Int)-1=(j:Int):=oO;have B:w2 (b8 d m=[(a,a),(g,a),(a,g),(b,a),(b,g),(b,j)]):=by show _=_;rw[q,r,hb,t];rfl
 have C:w2 (bQ d m=[(j,a),(b,b),(j,b),(a,b),(g,b),(a,j)]):=by show _=_;rw[q,r,hb,t];rfl
 have N:a<=10000000:=oO;have O:b<=10000000:=oO;have Q:g<=10000000:=oO;have S:j<=10000000:=oO;clear q r hb t;obtain⟨i,o⟩:∃i,i=w.alloc (.cells #[I J (s:Int),.bool c,I J (d:Int),I J (m:Int)] 71):=⟨_,rfl⟩;have F:w2 (af w i):=by show Below _ _ _;rw[o];exact ax _ _
 have y:w2 (ag i w.heap.size #[I J (s:Int),.bool c,I J (d:Int),I J (m:Int)] 71):=by show ag _ _ _ _;rw[o];exact ag.new _ _ _ _ oS
 have D:w2 (∀W,af i W->W.cell? ⟨w.heap.size,2,U⟩=gk (I J (d:Int))/\W.cell? ⟨w.heap.size,3,U⟩=gk (I J (m:Int))):=λW l=>⟨(y.out.below l).cell 2 _ rfl,(y.out.below l).cell 3 _ rfl⟩;have z:w2 (af w i.drew):=ai F.out;go_enter func88,ntmps88;go_wp2;rw[<-o];clear o;refine yO (af i) [1,2,3,4,5,6] (ai (w3 _ _)) ?_
 repeat refine zO D.out ?_
 refine aj ?_;have P:=aa z.out.size;have G:w2 (∀W:wR,af w W->af w (W.alloc (.cells ((b8 d m).flatMap fZ).toArray 47))/\fR w.heap.size (W.alloc (.cells ((b8 d m).flatMap fZ).toArray 47)) (.slice (gk ⟨W.heap.size,0,U⟩) 6 6) (b8 d m)):=by
  show∀W:wR,_;intro W l;exact⟨ah l _,SP.lit W _ _ _ 6 rfl rfl oM,λA m k E f n=>by injection f with f _ _;rw[n]at f;injection f with f;rw[<-f];exact l.size⟩
 have H:w2 (∀W:wR,af w W->af w (W.alloc (.cells ((bQ d m).flatMap fZ).toArray 47))/\fR w.heap.size (W.alloc (.cells ((bQ d m).flatMap fZ).toArray 47)) (.slice (gk ⟨W.heap.size,0,U⟩) 6 6) (bQ d m)):=by
  show∀W:wR,_;intro W l;exact⟨ah l _,SP.lit W _ _ _ 6 rfl rfl oM,λA m k E f n=>by injection f with f _ _;rw[n]at f;injection f with f;rw[<-f];exact l.size⟩
 go_wp2;go_ret2
 have f:=G.out i.drew z.out;have n:=H.out _ f.1;rw[B.out]at f n⊢;rw[C.out]at n⊢;have x:=n.2;rw[show(i.drew.alloc (.cells (([(a,a),(g,a),(a,g),(b,a),(b,g),(b,j)]:List Pt).flatMap fZ).toArray 47)).heap.size=i.heap.size+1 from by simp]at x;exact⟨_,_,rfl,f.2.below (ax _ _),x,n.1⟩
theorem zM {d:Array Oper} {S:wR->Prop} {K:Act->wR->Prop} {e:List (Bool×Nat×Oper)} {k:Nat} {b:Oper} {a:Act} {W:wR} {f c:Operand} (l:Region.wanted b (yielded d a.tmps)=wP) (g:b.op= .makeSlice 26 f c) (n:Nat) (hn:n<=100000000) (hl:a.eval f=I J (n:Int)) (hc:a.eval c=I J (n:Int))
 (i:S (W.alloc (.cells ((y0 n R).map vB).toArray 4))) (j:bI w1 d S K e (a.put b.dst (.slice (gk ⟨W.heap.size,0,U⟩) n n)) (W.alloc (.cells ((y0 n R).map vB).toArray 4))):bI w1 d S K ((wP,k,b)::e) a W:=by
 refine fl l ?_ i j;have h:=tW n hn W;unfold execOp;simp only[g,hl,hc,Sem.run_bind,Sem.run_pure,Result.andThen_ok,h]
theorem mg {i:Array Oper} {S:wR->Prop} {K:Act->wR->Prop} {j:List (Bool×Nat×Oper)} {k:Nat} {d:Oper} {a:Act} {W:wR} (g:TypeId) (y:Region.wanted d (yielded i a.tmps)=wP) (l x:Operand) (o:d.op= .store g l x) (m:TypeId) (b:Nat) (f:Array Value) (c:List Value) (p:ag W b f m)
 (q:a.eval l= .pointer (gk ⟨b,0,U⟩)) (r:a.eval x= .agg c.toArray) (s:(prog.info? g).map (·.size)=gk c.length) (z:c.length=f.size) (t:∀v∈c,v.oneCell'=wP)
 (u:S (W.setRow b c.toArray)) (w:bI w1 i S K j (a.put d.dst undef) (W.setRow b c.toArray)):bI w1 i S K ((wP,k,d)::j) a W:=by
 have n:=ma (P:=w1) W m g b 0 f c p s oO t;have e:(splice f.toList 0 c).toArray=c.toArray:=by
  unfold splice;rw[A0,List.nil_append,List.drop_eq_nil_of_le (by simp[z]),List.append_nil]
 rw[e]at n;refine .inl ⟨y,?_⟩;unfold execOp;simp only[o,q,r,Instr.storeAt,Instr.sureAddr,Sem.run_bind,Sem.run_pure,Result.andThen_ok,n];exact⟨u,w⟩
theorem Iv:(prog.info? 28).map (·.zero)=gk (gk (.agg #[I J 0,I J 0,.slice U 0 0])):=oK
theorem Pv:(prog.info? 28).map (·.size)=gk 3:=oK
theorem bF.row {w:wR} {db b:Nat} {a:List Bool} (h:bF w db a) (c:Array Value) (d:db≠b):bF (w.setRow b c) db a:=ag.other h c d
abbrev dq (n:Nat) (c:Bool) (a m:Nat):Array Value:=#[I J (n:Int),.bool c,I J (a:Int),I J (m:Int)]
abbrev rK (n H db N:Nat):List Value:=[I J (n:Int),I J (H:Int),.slice (gk ⟨db,0,U⟩) N N]
def ox (a W:wR) (n N db b:Nat):Prop:=bF W db (y0 N R)/\ag W b (rK n n db N).toArray 28/\af a W/\a.heap.size<=db/\a.heap.size<=b/\db≠b
def Tu (d:wR) (n N b:Nat) (a e:Act) (W:wR):Prop:=∃db c,e=(((((((((((a.put (gk 14) (.pointer (gk ⟨b,0,U⟩))).put (gk 15) (I J n)).put (gk 16) (.pointer (gk ⟨b,0,U⟩))).put (gk 17) (I J n)).put (gk 18) (.pointer (gk ⟨b,0,U⟩))).put (gk 19) (I J n)).put (gk 20) (.pointer (gk ⟨b,0,U⟩))).put (gk 21) (I J n)).put (gk 22) (I J N)).put (gk 23) (.slice (gk ⟨db,0,U⟩) N N)).put (gk 24) (.agg (rK n n db N).toArray)).put (gk 3) (.pointer (gk ⟨c,0,U⟩))/\ox d W n N db c
theorem ox.a {b a:wR} {n N:Nat} (c:af b a):ox b (((a.alloc (.cells ((y0 N R).map vB).toArray 4)).alloc (.cells #[I J 0,I J 0,.slice U 0 0] 28)).setRow (a.heap.size+1) (rK n n a.heap.size N).toArray) n N a.heap.size (a.heap.size+1):=by
 have d:bF (a.alloc (.cells ((y0 N R).map vB).toArray 4)) a.heap.size (y0 N R):=bF.new _ _;have e:ag ((a.alloc (.cells ((y0 N R).map vB).toArray 4)).alloc (.cells #[I J 0,I J 0,.slice U 0 0] 28)) (a.heap.size+1) #[I J 0,I J 0,.slice U 0 0] 28:=ag.new _ _ _ _ oS;have hs:=c.size;refine⟨(d.below (ax _ _)).row _ oO,ag.set e _,below_setRow (ah (ah c _) _) oO _,hs,by omega,by omega⟩
theorem ox.b {b a:wR} {n N:Nat} (c:af b a):ox b (((a.alloc (.cells #[I J 0,I J 0,.slice U 0 0] 28)).alloc (.cells ((y0 N R).map vB).toArray 4)).setRow a.heap.size (rK n n (a.heap.size+1) N).toArray) n N (a.heap.size+1) a.heap.size:=by
 have d:ag (a.alloc (.cells #[I J 0,I J 0,.slice U 0 0] 28)) a.heap.size #[I J 0,I J 0,.slice U 0 0] 28:=ag.new _ _ _ _ rfl;have e:bF ((a.alloc (.cells #[I J 0,I J 0,.slice U 0 0] 28)).alloc (.cells ((y0 N R).map vB).toArray 4)) (a.heap.size+1) (y0 N R):=ag.new _ _ _ _ oS;have hs:=c.size;refine⟨e.row _ oO,ag.set (d.below (ax _ _)) _,below_setRow (ah (ah c _) _) oO _,by omega,hs,by omega⟩
def mR (n b:Nat) (c:Bool) (d:Nat):List Bool:=(y3 (n* n)).map λa=>decide (a<d)&&xw b c (a%n,a/n)
theorem NB (n a:Nat) (c:Bool):mR n a c 0=y0 (n* n) R:=by
 unfold mR;apply Um oS;intro b d e;simp
theorem Qd (n a:Nat) (c:Bool):mR n a c (n* n)=eC n a c:=by
 unfold mR eC;apply A9;intro d b;rw[decide_eq_true (List.mem_range.1 b),VT]
theorem sS (n a:Nat) (c:Bool) (b:Nat):(mR n a c b).length=n* n:=by unfold mR;simp
theorem Hw {n b:Nat} {c:Bool} {d a:Nat} (h:a<(mR n b c d).length):(mR n b c d)[a]=(decide (a<d)&&xw b c (a%n,a/n)):=by simp[mR]
theorem M0 {n b:Nat} {c:Bool} {a:Nat}:(mR n b c a).set a (xw b c (a%n,a/n))=mR n b c (a+1):=by
 apply Um (by rw[List.length_set,sS,sS]);intro d f e;rw[W5,Hw e];by_cases h:a=d
 ·subst h;rw[if_pos rfl,decide_eq_true oO,VT]
 ·rw[if_neg h,Hw];have:decide (d<a)=decide (d<a+1):=by rw[decide_eq_decide];omega
  rw[this]
theorem NC {n b:Nat} {c:Bool} {a:Nat} (h:xw b c (a%n,a/n)=R):mR n b c (a+1)=mR n b c a:=by
 unfold mR;apply A9;intro d _;by_cases e:d=a
 ·subst e;rw[h,Bool.and_false,Bool.and_false]
 ·have:decide (d<a)=decide (d<a+1):=by rw[decide_eq_decide];omega
  rw[this]
theorem Mf (n b m:Nat) (c:Bool) (w:wR) (cx:m=bu c) (cy:m<=b) (hn:n=2* b+1) (d6:n<=1000):wS w1 83 #[dR n c b m] w λe ap=>∃db N,N=n* n/\e= .returned (Ko n n db N)/\w.heap.size<=db/\bF ap db (rP n b c)/\af w ap:=by
 obtain⟨N,bb⟩:∃N,N=n* n:=⟨_,rfl⟩;have g9:N<=1000000:=by rw[bb];exact Nat.mul_le_mul d6 d6
 have ib:(n:Int)* (n:Int)=(N:Int):=by rw[bb];simp
 have g4:J.wrap (N:Int)=(N:Int):=aG _ oO oO;have fo:5<=m/\m<=7:=by rw[cx];cases c<;>decide
 have c2:=aa cx;have a3:=aa bb;have ih:w2 ((b8 b m).length=6/\(bQ b m).length=6):=⟨rfl,rfl⟩;have gD:w2 (∀f∈b8 b m,f.1<=1000/\f.2<=1000/\eU n f<N):=by
  show∀f∈_,_;intro f c3;have h:=DY (C:=b) (s:=m) oO cy c3;exact⟨by omega,by omega,by rw[bb];exact mz oO oO⟩
 have gN:w2 (∀f∈bQ b m,f.1<=1000/\f.2<=1000/\eU n f<N):=by
  show∀f∈_,_;intro f c3;have h:=B5 (C:=b) (s:=m) oO cy c3;exact⟨by omega,by omega,by rw[bb];exact mz oO oO⟩
 have fr:w2 (∀W,wS w1 88 #[dR n c b m] W λe ap=>∃v u,e= .returned (.tuple #[v,u])/\fR W.heap.size ap v (b8 b m)/\fR W.heap.size ap u (bQ b m)/\af W ap):=λW=>ra n b m c W cy oO fo.1;have ii:1<=n:=oO;have io:b<=1000:=oO;have ip:b<n:=oO;clear cx bb hn;obtain⟨K,bz⟩:∃K,K=w.heap.size:=⟨_,rfl⟩;obtain⟨O,cq⟩:∃O,O=w.heap.size+1:=⟨_,rfl⟩;obtain⟨E,bf⟩:∃E,E=(w.alloc (.cells (dq n c b m) 71)).alloc (.cells #[I J 0,I J 0,.slice U 0 0] 28):=⟨_,rfl⟩;have d7:w2 (af w E):=by show Below _ _ _;rw[bf];exact ah (ax _ _) _
 have d8:w2 (ag E K (dq n c b m) 71):=by
  show ag _ _ _ _;rw[bf];have av:ag (w.alloc (.cells (dq n c b m) 71)) K (dq n c b m) 71:=ag.new _ _ _ _ bz;exact av.below (ax _ _)
 have fv:w2 (ag E O #[I J 0,I J 0,.slice U 0 0] 28):=by show ag _ _ _ _;rw[bf];exact ag.new _ _ _ _ (by simp[cq])
 have d9:w2 (w.heap.size<=O/\K<O/\O<E.heap.size):=by show _/\_;rw[bf,cq,bz];simp
 go_enter func83,ntmps83;go_wp2;simp only[<-cq,<-bf];simp only[<-bz];clear bf;have fw:=aa bz;clear bz cq;have a4:w2 (af E E.drew):=ai (w3 _ _);have fx:w2 (∀W,af E W->W.cell? ⟨K,0,U⟩=gk (I J (n:Int))):=λW co=>(d8.out.below co).cell 0 _ rfl;refine j8 (S:=af E) (.br [(R,0),(R,1),(R,2),(R,3),(R,4),(R,5),(R,6),(R,7),(R,8)] [9,11] (λk=>if k=9 then .last [(R,10),(wP,11),(wP,12)]else .last [(wP,9),(R,10),(wP,12)])) (Tu E n N K) oK oK a4.out ?_ ?_
 ·simp only[aT,aH,w7,w8]
  repeat refine zO fx.out ?_
  refine aj ?_;intro k d3;simp only[AQ,Ay,or_false]at d3;rcases d3 with rfl|rfl
  ·simp only[reduceIte,Nat.reduceEqDiff,aT,aH,w7,w8];refine' zM rfl rfl N oO rfl rfl (ah a4.out _) ?_;simp only[yQ,yU,yX,yY];refine aj ?_
   (try simp only[reduceIte,Nat.reduceEqDiff,aT,aH,w7,w8])
   refine zU ?_;refine' j4 28 rfl rfl _ Iv (ah (ah a4.out _) _) ?_;simp only[yQ,yU,yX,yY];have H:=aa (ox.a (n:=n) (N:=N) a4.out);refine mg 28 rfl _ _ rfl 28 (E.drew.heap.size+1) #[I J 0,I J 0,.slice U 0 0] (rK n n E.drew.heap.size N) (ag.new _ _ _ _ oS) (by show _=_;simp;rfl) rfl Pv rfl (by intro v bo;simp only[AQ,Ay,or_false]at bo;rcases bo with rfl|rfl|rfl<;>rfl) H.out.2.2.1 ?_;simp only[yQ,yU,yX,yY];refine aj ?_;refine⟨_,_,?_,H.out⟩;simp[Act.put,Vb,Vs,V2]
  ·simp only[reduceIte,Nat.reduceEqDiff,aT,aH,w7,w8];refine' j4 28 rfl rfl _ Iv (ah a4.out _) ?_;simp only[yQ,yU,yX,yY];refine aj ?_
   (try simp only[reduceIte,Nat.reduceEqDiff,aT,aH,w7,w8])
   refine' zM rfl rfl N oO rfl rfl (ah (ah a4.out _) _) ?_;have fz:(E.drew.alloc (.cells #[I J 0,I J 0,.slice U 0 0] 28)).heap.size=E.drew.heap.size+1:=by simp
   simp only[Act.put,Vb,Vs,V2,fz];refine zU ?_;have H:=aa (ox.b (n:=n) (N:=N) a4.out);refine mg 28 rfl _ _ rfl 28 E.drew.heap.size #[I J 0,I J 0,.slice U 0 0] (rK n n (E.drew.heap.size+1) N) ((ag.new E.drew _ _ _ rfl).below (ax _ _)) rfl rfl Pv rfl (by intro v bo;simp only[AQ,Ay,or_false]at bo;rcases bo with rfl|rfl|rfl<;>rfl) H.out.2.2.1 ?_;simp only[yQ,yU,yX,yY];refine aj ?_;refine⟨_,_,?_,H.out⟩;simp[Act.put,Vb,Vs,V2]
 ·rintro g5 g ⟨db,bq,rfl,ea⟩;have H:=aa ea;clear ea;simp only[yQ,yU,yX,yY];have fG:=d9.out;have f0:=H.out.2.2.1.size;have f1:=H.out.2.2.2;have f2:=ay H.out.1;have b1:=ay H.out.2.1;have a0:w2 (K≠db/\bq≠db/\O≠db/\K<g.heap.size/\bq<g.heap.size/\db<g.heap.size/\w.heap.size<=db/\O<g.heap.size/\w.heap.size<=g.heap.size):=by
   show _/\_;have:=d7.out.size;have:=fw.out;omega
  have f3:=aa (ae d7.out H.out.2.2.1);have f4:w2 (ag g K (dq n c b m) 71):=d8.out.below H.out.2.2.1;have f5:w2 (ag g O #[I J 0,I J 0,.slice U 0 0] 28):=fv.out.below H.out.2.2.1;clear fG f0 f1 f2 b1;have j:w2 (∀W,aI db g W->((W.cell? ⟨K,0,U⟩=gk (I J (n:Int))/\W.cell? ⟨K,1,U⟩=gk (.bool c)/\W.cell? ⟨K,2,U⟩=gk (I J (b:Int))/\W.cell? ⟨K,3,U⟩=gk (I J (m:Int)))/\W.cell? ⟨bq,0,U⟩=gk (I J (n:Int))/\W.cell? ⟨bq,1,U⟩=gk (I J (n:Int))/\W.cell? ⟨bq,2,U⟩=gk (.slice (gk ⟨db,0,U⟩) N N))):=by
   show∀W,_;intro W co;have av:=co.row f4.out a0.out.1;have X:=co.row H.out.2.1 a0.out.2.1;exact⟨⟨av.cell 0 _ rfl,av.cell 1 _ rfl,av.cell 2 _ rfl,av.cell 3 _ rfl⟩,X.cell 0 _ rfl,X.cell 1 _ rfl,X.cell 2 _ rfl⟩
  obtain⟨⟨s,t,z,B⟩,k0,C,D⟩:=j.out g (aI.refl _ _);have ec:w2 (bF g db (mR n b c 0)/\aI db g g):=by show _/\_;rw[NB,<-a3.out];exact⟨H.out.1,aI.refl _ _⟩
  go_wp2;clear s t z B k0 C D;go_loopw [28] (λQ wr=>∃a:Nat,a<=N/\Q=I J a/\w2 (bF wr db (mR n b c a)/\aI db g wr)) (λQ _=>N-(intOf Q).toNat)
  case atStart=>exact⟨0,x1 _,rfl,ec.out⟩
  case round=>
   clear ec;obtain⟨a,Y,rfl,r⟩:=hrel;by_cases L:a<N
   ·obtain⟨x,S⟩:∃x,x=a%n:=⟨_,rfl⟩;obtain⟨y,T⟩:∃y,y=a/n:=⟨_,rfl⟩;have it:x<n:=by rw[S];exact Nat.mod_lt _ oO
    have iv:y<n:=by rw[T];exact(Nat.div_lt_iff_lt_mul oO).2 (by rw[<-a3.out];exact L)
    have ix:¬n=0:=oO;have et:(a:Int)%(n:Int)=(x:Int):=by rw[S];simp
    have ew:(a:Int)/(n:Int)=(y:Int):=by rw[T];simp
    have i0:(a:Int).tmod (n:Int)=(x:Int):=by rw[Int.tmod_eq_emod_of_nonneg oO];exact et
    have i1:(a:Int).tdiv (n:Int)=(y:Int):=by rw[Int.tdiv_eq_ediv_of_nonneg oO];exact ew
    have g6:J.wrap (y:Int)=(y:Int):=aG _ oO oO;obtain⟨d,bs⟩:∃d,d=lQ b (x,y):=⟨_,rfl⟩;have i2:d<=1000:=by rw[bs];unfold lQ pT;simp only;omega
    have bi:w2 (∀W,wS w1 86 #[dR n c b m,I J x,I J y] W (au (I J (d:Int)) W)):=λW=>by rw[bs];exact uO n b m x y c W oO oO oO
    have ed:w2 (∀W,wS w1 87 #[I J d] W λe ap=>e= .returned (.bool (d%2==0))/\ap=W):=λW=>xL d W oO;have ab:w2 (∀W,wS w1 133 #[dR n c b m,I J ((x:Int)-(b:Int)),I J ((y:Int)-(b:Int))] W (au (.bool (AN b (x,y))) W)):=λW=>by rw[<-QE];exact xd n b m c _ _ W
    have c5:w2 (d<m->xw b c (a%n,a/n)=(d%2==0)):=by
     show _->_;intro h;unfold xw;rw[<-S,<-T,<-bs,if_pos (by rw[<-c2.out];exact h)]
    have c6:w2 (¬d<m->xw b c (a%n,a/n)=(!c&&AN b (x,y))):=by
     show _->_;intro h;unfold xw;rw[<-S,<-T,<-bs,if_neg (by rw[<-c2.out];exact h)]
    have ef:=aa (@M0 n b c a);have eh:=aa (@NC n b c a);have a1:w2 (a<(mR n b c a).length):=by show _<_;rw[sS,<-a3.out];exact L
    clear S T bs;have i3:w2 (∃u v:Int,u=(x:Int)-(b:Int)/\v=(y:Int)-(b:Int)):=⟨_,_,rfl,rfl⟩;generalize xw b c (a%n,a/n)=bt at*;generalize AN b (x,y)=ex at*;generalize mR n b c a=G at*;have i4:(a:Int)<(N:Int):=oO;have ac:w2 (aI db g wr.drew):=r.out.2.trans (aI.below (ai (w3 _ _)));have c7:w2 (bF wr.drew db G):=r.out.1.below (ai (w3 _ _));by_cases cr:d<m
    ·have b2:=c5.out cr;subst b2;have f6:(d:Int)<(m:Int):=oO;clear c5 c6 ab;go_wp2;refine yO (λW=>aI db g W) [1,2,3,4,5,6,7,8,9,10] ac.out ?_
     repeat refine zO j.out ?_
     refine aj ?_;obtain⟨⟨s,t,z,B⟩,k0,C,D⟩:=j.out wr.drew ac.out;go_wp2_with(go_at_call 86;refine(bi.out _).mono ?_;rintro e F ⟨rfl,V⟩;have a2:w2 (aI db g F):=ac.out.trans (aI.below V);have b3:w2 (bF F db G):=c7.out.below V;clear V s t z B k0 C D bi;obtain⟨⟨s,t,z,B⟩,k0,C,D⟩:=j.out F a2.out)
     have a5:w2 (aI db g F.drew):=a2.out.trans (aI.below (ai (w3 _ _)));have b4:w2 (bF F.drew db G):=b3.out.below (ai (w3 _ _));clear s t z B k0 C D;refine yO (λW=>aI db g W) [1,2,3,4,0,5,0,6,0,7] a5.out ?_
     repeat refine zO j.out ?_
     refine zZ ?_;refine(ed.out _).mono ?_;rintro e bd ⟨rfl,ek⟩;rw[ek];clear ek;refine⟨_,rfl,a5.out,jO ?_⟩;refine zO j.out ?_;refine' iW (w':=F.drew.setCell ⟨db,a,U⟩ (.bool (d%2==0))) rfl (rJ rfl ⟨db,a,U⟩ _ rfl rfl (b4.out.cell a1.out) (frozen_of_row _ _ _ _ _ b4.out)) (a5.out.trans (aI.eN _)) ?_;simp only[yQ,yU,yX,yY];refine aj ?_;have am:w2 (bF (F.drew.setCell ⟨db,a,U⟩ (.bool (d%2==0))) db (mR n b c (a+1))/\aI db g (F.drew.setCell ⟨db,a,U⟩ (.bool (d%2==0)))):=by
      show _/\_;rw[<-ef.out];exact⟨b4.out.set _ _,a5.out.trans (aI.eN _)⟩
     go_wp2;exact⟨⟨a+1,by omega,by go_num,am.out⟩,by simp[intOf];omega⟩
    ·have f6:¬(d:Int)<(m:Int):=oO;have i5:m<=d:=oO;have i6:decide (d<m)=R:=by simp;omega
     have d0:=aa (c6.out cr);clear c5 c6 ed;cases c with
     |true=>
      have b2:bt=R:=d0.out;subst b2;clear cr;have f7:=aa (eh.out rfl);go_wp2;refine yO (λW=>aI db g W) [1,2,3,4,5,6,7,8,9,10] ac.out ?_
      repeat refine zO j.out ?_
      refine aj ?_;obtain⟨⟨s,t,z,B⟩,k0,C,D⟩:=j.out wr.drew ac.out;go_wp2_with(go_at_call 86;refine(bi.out _).mono ?_;rintro e F ⟨rfl,V⟩;have a2:w2 (aI db g F):=ac.out.trans (aI.below V);have b3:w2 (bF F db G):=c7.out.below V;clear V s t z B k0 C D bi;obtain⟨⟨s,t,z,B⟩,k0,C,D⟩:=j.out F a2.out)
      exact⟨⟨a+1,by omega,by go_num,by show _/\_;rw[f7.out];exact⟨b3.out,a2.out⟩⟩,by simp[intOf];omega⟩
     |false=>
      have b2:bt=ex:=d0.out;subst b2;clear cr eh d0;go_wp2;refine yO (λW=>aI db g W) [1,2,3,4,5,6,7,8,9,10] ac.out ?_
      repeat refine zO j.out ?_
      refine aj ?_;obtain⟨⟨s,t,z,B⟩,k0,C,D⟩:=j.out wr.drew ac.out;go_wp2_with(go_at_call 86;refine(bi.out _).mono ?_;rintro e F ⟨rfl,V⟩;have a2:w2 (aI db g F):=ac.out.trans (aI.below V);have b3:w2 (bF F db G):=c7.out.below V;clear V s t z B k0 C D bi;obtain⟨⟨s,t,z,B⟩,k0,C,D⟩:=j.out F a2.out)
      have a5:w2 (aI db g F.drew):=a2.out.trans (aI.below (ai (w3 _ _)));have b4:w2 (bF F.drew db G):=b3.out.below (ai (w3 _ _));clear s t z B k0 C D;have i7:J.wrap ((x:Int)-(b:Int))=(x:Int)-(b:Int):=aG _ oO oO;have i8:J.wrap ((y:Int)-(b:Int))=(y:Int)-(b:Int):=aG _ oO oO;refine yO (λW=>aI db g W) [1,2,3,4,5,6,7,8,9,10,11,12,0,13,0,14,0,15] a5.out ?_;refine zO j.out ?_;refine zO j.out ?_;refine zO j.out ?_;refine zO j.out ?_;refine zO j.out ?_;refine zO j.out ?_;refine zO j.out ?_;refine zO j.out ?_;refine zO j.out ?_;refine zO j.out ?_;refine zO j.out ?_;refine zO j.out ?_;refine zZ ?_;refine(ab.out _).mono ?_;rintro e bd ⟨rfl,c8⟩;have c9:w2 (aI db g bd):=a5.out.trans (aI.below c8);have da:w2 (bF bd db G):=b4.out.below c8;clear c8;refine⟨_,rfl,c9.out,jO ?_⟩;refine zO j.out ?_;refine' iW (w':=bd.setCell ⟨db,a,U⟩ (.bool bt)) rfl (rJ rfl ⟨db,a,U⟩ _ rfl rfl (da.out.cell a1.out) (frozen_of_row _ _ _ _ _ da.out)) (c9.out.trans (aI.eN _)) ?_;simp only[yQ,yU,yX,yY];refine aj ?_;have am:w2 (bF (bd.setCell ⟨db,a,U⟩ (.bool bt)) db (mR n b R (a+1))/\aI db g (bd.setCell ⟨db,a,U⟩ (.bool bt))):=by
       show _/\_;rw[<-ef.out];exact⟨da.out.set _ _,c9.out.trans (aI.eN _)⟩
      go_wp2;exact⟨⟨a+1,by omega,by go_num,am.out⟩,by simp[intOf];omega⟩
   ·obtain rfl:N=a:=oO;obtain⟨ad,rfl⟩:∃x,x=wr:=⟨_,rfl⟩;have f8:w2 (bF ad db (eC n b c)):=by show bF _ _ _;rw[<-Qd,<-a3.out];exact r.out.1
    have dd:w2 (aI db g ad):=r.out.2;clear r;obtain⟨⟨s,t,z,B⟩,k0,C,D⟩:=j.out ad dd.out;go_wp2_with(go_at_call 88;refine(fr.out _).mono ?_;rintro e M ⟨v4,u4,rfl,b1,de,di⟩;obtain⟨ey,g7,rfl,f9,gb,gc⟩:=id b1.1;obtain⟨c4,d4,rfl,ge,gg,gi⟩:=id de.1;have el:=aa b1;have em:=aa de;have en:w2 (aI db g M):=dd.out.trans (aI.below di);have gm:w2 (bF M db (eC n b c)):=f8.out.below di;have dl:w2 (db<ad.heap.size):=x6 a0.out.2.2.2.2.2.1 dd.out.sz;clear di b1 de f9 gb gc ge gg gi s t z B k0 C D)
    have eq:w2 (bF M db (dL n (eC n b c) ((b8 b m).take 0) (j6.take 0))/\aI db M M):=by show _/\_;rw[A0,r9];exact⟨gm.out,aI.refl _ _⟩
    have gY:w2 (∀a,a<6->∃i l,ey=gk ⟨i,l,U⟩/\i<M.heap.size/\i≠db/\M.cell? ⟨i,l+a* 2,U⟩=gk (I J (((b8 b m).getD a (0,0)).1:Int))/\M.cell? ⟨i,l+a* 2+1,U⟩=gk (I J (((b8 b m).getD a (0,0)).2:Int))):=by
     show∀a,_;intro a Y;obtain⟨A,k,e,-,-,h⟩:=el.out.1;obtain⟨i,l,e2,X,bv⟩:=h (by show 0<6;omega);injection e with e3 _ _;have cp:ad.heap.size<=i:=el.out.2 _ _ _ _ rfl (e3.trans e2);have bx:=dl.out;have be:=bv a Y;exact⟨i,l,e3.trans e2,X,by omega,be⟩
    go_wp2;go_loopw [80] (λQ wr=>∃a:Nat,a<=6/\Q=I J a/\w2 (bF wr db (dL n (eC n b c) ((b8 b m).take a) (j6.take a))/\aI db M wr)) (λQ _=>6-(intOf Q).toNat)
    case atStart=>exact⟨0,x1 _,rfl,eq.out⟩
    case round=>
     clear eq;obtain⟨a,Y,rfl,r⟩:=hrel;by_cases L:a<6
     ·obtain⟨i,l,rfl,b5,b6,S,T⟩:=gY.out a L;have b7:(b8 b m).getD a (0,0)∈b8 b m:=by
       have:a<(b8 b m).length:=L;simp only[List.getD,yv this,HL];exact C4 this
      obtain⟨go,gp,ch⟩:=gD.out _ b7;have b9:j6.getD a R=wP:=by
       have:∀a,a<6->j6.getD a R=wP:=by decide
       exact this a L
      have ck:w2 (dL n (eC n b c) ((b8 b m).take (a+1)) (j6.take (a+1))=(dL n (eC n b c) ((b8 b m).take a) (j6.take a)).set (eU n ((b8 b m).getD a (0,0))) wP):=by
       have:=yt n (eC n b c) (b8 b m) j6 (i:=a) L L;rw[b9]at this;exact this
      have a1:w2 ((dL n (eC n b c) ((b8 b m).take a) (j6.take a)).length=N):=by show _=_;rw[ir,pL,a3.out]
      generalize(b8 b m).getD a (0,0)=f at*;generalize dL n (eC n b c) ((b8 b m).take a) (j6.take a)=G at*;have ca:aI db g wr:=en.out.trans r.out.2;have e1:wr.cell? ⟨i,l+a* 2,U⟩=gk (I J (f.1:Int)):=(r.out.2.cell (a:=⟨i,l+a* 2,U⟩) b5 b6).trans S;have e2:wr.cell? ⟨i,l+a* 2+1,U⟩=gk (I J (f.2:Int)):=(r.out.2.cell (a:=⟨i,l+a* 2+1,U⟩) b5 b6).trans T;obtain⟨o,al⟩:∃o,o=wr.alloc (.cells #[I J (f.1:Int),I J (f.2:Int)] 47):=⟨_,rfl⟩;obtain⟨Z,a6⟩:∃Z,Z=wr.heap.size:=⟨_,rfl⟩;have a7:w2 (af wr o):=by show Below _ _ _;rw[al];exact ax _ _
      have cb:w2 (ag o Z #[I J (f.1:Int),I J (f.2:Int)] 47):=by show ag _ _ _ _;rw[al,a6];exact ag.new _ _ _ _ oS
      have a8:w2 (bF o db G):=r.out.1.below a7.out;have dn:w2 (aI db g o):=ca.trans (aI.below a7.out);have ds:w2 (aI db M o):=r.out.2.trans (aI.below a7.out);have ce:=eu cb.out;have ci:o.cell? ⟨Z,1,U⟩=gk (I J (f.2:Int)):=cb.out.cell 1 _ rfl;obtain⟨⟨s,t,z,B⟩,k0,C,D⟩:=j.out o dn.out;obtain⟨q,hq⟩:∃q,q=f.2* n:=⟨_,rfl⟩;obtain⟨p,a9⟩:∃p,p=eU n f:=⟨_,rfl⟩;have dv:p=q+f.1:=by rw[a9,hq];rfl
      rw[<-a9]at ch ck;have gq:q<=1000000:=oO;have gs:(f.2:Int)* (n:Int)=(q:Int):=by rw[hq];simp
      have ez:J.wrap (q:Int)=(q:Int):=aG _ oO oO;have eA:J.wrap ((q:Int)+(f.1:Int))=(p:Int):=by rw[aG _ oO oO];omega
      have gt:(q:Int)+(f.1:Int)=(p:Int):=oO;have g0:(p:Int)<(N:Int):=oO;have d1:w2 (p<G.length):=by show _<_;rw[a1.out];exact ch
      have gv:(a:Int)<6:=oO;have dx:o.cell? ⟨db,p,U⟩=gk (.bool (G.getD p R)):=a8.out.cell d1.out;have dy:=bN (p) a8.out;have am:w2 (bF (o.setCell ⟨db,p,U⟩ (.bool wP)) db (dL n (eC n b c) ((b8 b m).take (a+1)) (j6.take (a+1)))/\aI db M (o.setCell ⟨db,p,U⟩ (.bool wP))):=by
       show _/\_;rw[ck.out];exact⟨a8.out.set _ _,ds.out.trans (aI.eN _)⟩
      rw[al]at s t z B k0 C D dx dy am ce ci;rw[a6]at ce ci;clear hq a9 dv b7 a1 b9 S T ca al a6;go_wp2;exact⟨⟨a+1,by omega,by go_num,am.out⟩,by simp[intOf];omega⟩
     ·obtain rfl:a=6:=oO;have gw:w2 (bF wr db (dL n (eC n b c) (b8 b m) j6)):=r.out.1;have cs:w2 (aI db M wr):=r.out.2;clear r;have cv:w2 (fR ad.heap.size M (.slice c4 (bQ b m).length d4) (bQ b m)):=em;obtain⟨P,rfl⟩:∃x,x=wr:=⟨_,rfl⟩;have er:w2 (aI db g P):=en.out.trans cs.out;have g1:w2 (fR ad.heap.size P (.slice c4 (bQ b m).length d4) (bQ b m)):=by
       obtain⟨⟨A,k,e,av,X,bv⟩,cp⟩:=em.out;refine⟨⟨A,k,e,av,X,λe0=>?_⟩,cp⟩;obtain⟨i,l,e2,bx,be⟩:=bv e0;have e9:=cp A _ _ _ e e2;have g8:=dl.out;have d5:i≠db:=by show i≠db;have:ad.heap.size<=i:=e9;omega
       exact⟨i,l,e2,x6 bx cs.out.sz,λa Y=>⟨(cs.out.cell (a:=⟨i,l+a* 2,U⟩) bx d5).trans (be a Y).1,(cs.out.cell (a:=⟨i,l+a* 2+1,U⟩) bx d5).trans (be a Y).2⟩⟩
      have gx:=gw;have gy:=dl;clear cv;have cv:=g1;have es:w2 (bF P db (dL n (dL n (eC n b c) (b8 b m) j6) ((bQ b m).take 0) (nU.take 0))/\aI db P P):=by show _/\_;rw[A0,r9];exact⟨gx.out,aI.refl _ _⟩
      have g2:w2 (∀a,a<6->∃i l,c4=gk ⟨i,l,U⟩/\i<P.heap.size/\i≠db/\P.cell? ⟨i,l+a* 2,U⟩=gk (I J (((bQ b m).getD a (0,0)).1:Int))/\P.cell? ⟨i,l+a* 2+1,U⟩=gk (I J (((bQ b m).getD a (0,0)).2:Int))):=by
       show∀a,_;intro a Y;obtain⟨A,k,e,-,-,h⟩:=cv.out.1;obtain⟨i,l,e2,X,bv⟩:=h (by show 0<6;omega);injection e with e3 _ _;have cp:ad.heap.size<=i:=cv.out.2 _ _ _ _ rfl (e3.trans e2);have bx:=gy.out;have be:=bv a Y;exact⟨i,l,e3.trans e2,X,by omega,be⟩
      go_wp2;go_loopw [98] (λQ wr=>∃a:Nat,a<=6/\Q=I J a/\w2 (bF wr db (dL n (dL n (eC n b c) (b8 b m) j6) ((bQ b m).take a) (nU.take a))/\aI db P wr)) (λQ _=>6-(intOf Q).toNat)
      case atStart=>exact⟨0,x1 _,rfl,es.out⟩
      case round=>
       clear es;obtain⟨a,Y,rfl,r⟩:=hrel;by_cases L:a<6
       ·obtain⟨i,l,rfl,b5,b6,S,T⟩:=g2.out a L;have b7:(bQ b m).getD a (0,0)∈bQ b m:=by
         have:a<(bQ b m).length:=L;simp only[List.getD,yv this,HL];exact C4 this
        obtain⟨go,gp,ch⟩:=gN.out _ b7;have b9:nU.getD a R=R:=by
         have:∀a,a<6->nU.getD a R=R:=by decide
         exact this a L
        have ck:w2 (dL n (dL n (eC n b c) (b8 b m) j6) ((bQ b m).take (a+1)) (nU.take (a+1))=(dL n (dL n (eC n b c) (b8 b m) j6) ((bQ b m).take a) (nU.take a)).set (eU n ((bQ b m).getD a (0,0))) R):=by
         have:=yt n (dL n (eC n b c) (b8 b m) j6) (bQ b m) nU (i:=a) L L;rw[b9]at this;exact this
        have a1:w2 ((dL n (dL n (eC n b c) (b8 b m) j6) ((bQ b m).take a) (nU.take a)).length=N):=by show _=_;rw[ir,ir,pL,a3.out]
        generalize(bQ b m).getD a (0,0)=f at*;generalize dL n (dL n (eC n b c) (b8 b m) j6) ((bQ b m).take a) (nU.take a)=G at*;have ca:aI db g wr:=er.out.trans r.out.2;have e1:wr.cell? ⟨i,l+a* 2,U⟩=gk (I J (f.1:Int)):=(r.out.2.cell (a:=⟨i,l+a* 2,U⟩) b5 b6).trans S;have e2:wr.cell? ⟨i,l+a* 2+1,U⟩=gk (I J (f.2:Int)):=(r.out.2.cell (a:=⟨i,l+a* 2+1,U⟩) b5 b6).trans T;obtain⟨o,al⟩:∃o,o=wr.alloc (.cells #[I J (f.1:Int),I J (f.2:Int)] 47):=⟨_,rfl⟩;obtain⟨Z,a6⟩:∃Z,Z=wr.heap.size:=⟨_,rfl⟩;have a7:w2 (af wr o):=by show Below _ _ _;rw[al];exact ax _ _
        have cb:w2 (ag o Z #[I J (f.1:Int),I J (f.2:Int)] 47):=by show ag _ _ _ _;rw[al,a6];exact ag.new _ _ _ _ oS
        have a8:w2 (bF o db G):=r.out.1.below a7.out;have dn:w2 (aI db g o):=ca.trans (aI.below a7.out);have ds:w2 (aI db P o):=r.out.2.trans (aI.below a7.out);have ce:=eu cb.out;have ci:o.cell? ⟨Z,1,U⟩=gk (I J (f.2:Int)):=cb.out.cell 1 _ rfl;obtain⟨⟨s,t,z,B⟩,k0,C,D⟩:=j.out o dn.out;obtain⟨q,hq⟩:∃q,q=f.2* n:=⟨_,rfl⟩;obtain⟨p,a9⟩:∃p,p=eU n f:=⟨_,rfl⟩;have dv:p=q+f.1:=by rw[a9,hq];rfl
        rw[<-a9]at ch ck;have gq:q<=1000000:=oO;have gs:(f.2:Int)* (n:Int)=(q:Int):=by rw[hq];simp
        have ez:J.wrap (q:Int)=(q:Int):=aG _ oO oO;have eA:J.wrap ((q:Int)+(f.1:Int))=(p:Int):=by rw[aG _ oO oO];omega
        have gt:(q:Int)+(f.1:Int)=(p:Int):=oO;have g0:(p:Int)<(N:Int):=oO;have d1:w2 (p<G.length):=by show _<_;rw[a1.out];exact ch
        have gv:(a:Int)<6:=oO;have dx:o.cell? ⟨db,p,U⟩=gk (.bool (G.getD p R)):=a8.out.cell d1.out;have dy:=bN (p) a8.out;have am:w2 (bF (o.setCell ⟨db,p,U⟩ (.bool R)) db (dL n (dL n (eC n b c) (b8 b m) j6) ((bQ b m).take (a+1)) (nU.take (a+1)))/\aI db P (o.setCell ⟨db,p,U⟩ (.bool R))):=by
         show _/\_;rw[ck.out];exact⟨a8.out.set _ _,ds.out.trans (aI.eN _)⟩
        rw[al]at s t z B k0 C D dx dy am ce ci;rw[a6]at ce ci;clear hq a9 dv b7 a1 b9 S T ca al a6;go_wp2;exact⟨⟨a+1,by omega,by go_num,am.out⟩,by simp[intOf];omega⟩
       ·obtain rfl:a=6:=oO;have HEq:w2 (bF wr db (dL n (dL n (eC n b c) (b8 b m) j6) (bQ b m) nU)):=r.out.1;have g3:w2 (aI db P wr):=r.out.2;clear r;have dz:w2 (aI db g wr):=er.out.trans g3.out;obtain⟨⟨s,t,z,B⟩,k0,C,D⟩:=j.out wr dz.out;have ab:w2 (ag wr O #[I J 0,I J 0,.slice U 0 0] 28):=dz.out.row f5.out a0.out.2.2.1;have c0:=eu ab.out;have c1:=ia ab.out;have fb:=kt ab.out;have fc:=bN 0 ab.out;have fd:=bN 1 ab.out;have fn:=bN 2 ab.out;have gz:w2 (af w wr):=f3.out.trans (dz.out.to a0.out.2.2.2.2.2.2.1 a0.out.2.2.2.2.2.2.2.2);have gC:w2 (dL n (dL n (eC n b c) (b8 b m) j6) (bQ b m) nU=rP n b c):=by show _=_;unfold rP;rw[<-c2.out]
        have d2:w.heap.size<=O:=d9.out.1;go_wp2;refine bodyPost_ret (v:=Ko n n db N) (by simp[results,results83,go_sem,c0,c1,fb,fc,fd,fn]) rfl ⟨db,N,a3.out,rfl,a0.out.2.2.2.2.2.2.1,?_,?_⟩
        ·rw[<-gC.out];have dE:db≠O:=(a0.out.2.2.1).symm;exact((ag.jK (ag.jK (ag.jK HEq.out _ _ dE) _ _ dE) _ _ dE))
        ·exact((gz.out.setCell d2 _).setCell d2 _).setCell d2 _
end
end Go.Proofs.YtmnlkganmgcpbaaGreatDoor
