import Derived.Test.YtmnlkganmgcpbaaGreatDoorQe13
set_option maxRecDepth 100000
set_option maxHeartbeats 4000000
set_option linter.unusedVariables false
set_option linter.unusedSectionVars false
set_option linter.unusedSimpArgs false
namespace Go.Proofs.YtmnlkganmgcpbaaGreatDoor
section
open Fl
section
variable {K : Type} [Fl K]
def mx (r:K) (f:Nat->K):Nat->K:=λn=>sh f n-r* f n
theorem Km {r:K} {f:Nat->K} {d:Nat} (h:gP d f):gP (d+1) (mx r f):=by
 intro i a;obtain⟨i,rfl⟩:∃k,i=k+1:=⟨i-1,by omega⟩;show f i-r* f (i+1)=0;rw[h i oO,h (i+1) oO,cu,ew]
theorem E3 (x:K) (f:Nat->K) (n:Nat):cF x (sh f) (n+1)=x* cF x f n:=by
 rw[da];show 0+x* cF x (dA (sh f)) n=_;rw[dh];rfl
theorem KK {x r:K} {f:Nat->K} {d:Nat} (h:gP d f):cF x (mx r f) (d+1)=(x-r)* cF x f d:=by
 rw[show cF x (mx r f) (d+1)=cF x (λk=>sh f k-r* f k) (d+1)from rfl,vx x (sh f) (λk=>r* f k),E3,s8,j9 h (Nat.le_succ d),zv]
theorem CE (r:K):gP 1 (j6 r):=λi a=>by unfold j6;rw[if_neg oO]
theorem JG (x r:K):cF x (j6 r) 1=r:=by
 rw[da];show r+x* 0=r;rw[cu,bJ]
def rv (n:Nat) (g:Nat->K):Nat->K:=λj=>if j<n then g (n-1-j)else 0
theorem Kz (n:Nat) (g:Nat->K):gP n (rv n g):=λi a=>by unfold rv;rw[if_neg oO]
theorem ou (a b:K):a+b-b=a:=by rw[dQ,kA,<-dQ,ew,bJ]
end
def mJ (l:List Nat) (c j:Nat):Nat:=if j=0 then c else l.getD (j-1) 0
theorem oJ {l:List Nat} {i v:Nat} (a:i<l.length):(l.set i v).getD i 0=v:=by simp[List.getD,a]
theorem nd {l:List Nat} {i j v:Nat} (h:i≠j):(l.set i v).getD j 0=l.getD j 0:=by simp[List.getD,List.getElem?_set_ne h]
theorem B9 (s p:Nat) (l:List Nat) (r c k:Nat) (g:k<=l.length) (j:Nat):
 (eL s p l r c k).getD j 0=if j<k then bE s p (mJ l c j) (aM s p (l.getD j 0) r)else if j=k then mJ l c j else 0:=by
 induction k generalizing j with
 |zero=>
  show((List.replicate (l.length+1) 0).set 0 c).getD j 0=_;rw[if_neg oO];by_cases h:j=0
  ·subst h;rw[if_pos rfl,oJ oS];rfl
  ·rw[if_neg h,nd oO];by_cases a:j<l.length+1
   ·simp[List.getD,a]
   ·simp[List.getD,a]
 |succ k b=>
  have b:=b oO;have f:=l6 s p l r c k;show(((eL s p l r c k).set k (bE s p ((eL s p l r c k).getD k 0) (aM s p (l.getD k 0) r))).set (k+1) (l.getD k 0)).getD j 0=_;by_cases d:j=k+1
  ·subst d;rw[oJ (by rw[List.length_set,f];omega),if_neg oO,if_pos rfl];rfl
  ·rw[nd (Ne.symm d)];by_cases a:j=k
   ·subst a;rw[oJ (by rw[f];omega),if_pos oO,b j,if_neg oO,if_pos rfl]
   ·rw[nd (Ne.symm a),b j];by_cases e:j<k
    ·rw[if_pos e,if_pos oO]
    ·rw[if_neg e,if_neg a,if_neg oO,if_neg d]
theorem KW (s p:Nat) (l:List Nat) (r c k:Nat) (a:k<l.length):(eL s p l r c (k+1)).getD (k+1) 0=l.getD k 0:=by
 show(((eL s p l r c k).set k _).set (k+1) (l.getD k 0)).getD (k+1) 0=_;rw[List.getD,List.getElem?_set_self (by rw[List.length_set,l6];omega)];rfl
theorem Gl (s p:Nat) (roots:List Nat):∀k,(fromL s p roots k).getD k 0=1:=by
 intro k
 induction k with
 |zero=>rfl
 |succ k a=>
  show(jC s p (fromL s p roots k) (roots.getD k 0) 0).getD (k+1) 0=1;unfold jC;have hl:=ko s p roots k;rw[hl,KW _ _ _ _ _ _ oO,a]
structure mC (s p par first:Nat) (data w:List Nat):Prop where
 lt:aA s w
 ln:w.length=data.length+par
 pre:∀i,i<data.length->w.getD i 0=data.getD i 0
 cw:∀j,j<par->ze s p first w j=0
noncomputable def dt (par:Nat) (data:List Nat):List Nat:=(List.range (data.length+par)).map λj=>if j<par then 0 else data.getD (data.length+par-1-j) 0
noncomputable def eT (s p par first:Nat) (data:List Nat):List Nat:=dT s p (fg (dt par data)) (cP s p first par)
noncomputable def eF (s p par first:Nat) (data:List Nat):List Nat:=(List.range (data.length+par)).map λj=>if j<data.length then data.getD j 0 else bE s p 0 ((eT s p par first data).getD (data.length+par-1-j) 0)
theorem kz (par:Nat) (data:List Nat):(dt par data).length=data.length+par:=by unfold dt;simp
theorem ow (s p par first:Nat) (data:List Nat):(eF s p par first data).length=data.length+par:=by unfold eF;simp
section
variable {c s p : Nat} (h : VF c s p)
def vl (x:KF h) (l:List Nat):KF h:=cF x (co h l) l.length
include h
theorem Lj (x:KF h) {l:List Nat} {n:Nat} (hn:l.length<=n):cF x (co h l) n=vl h x l:=j9 (fq h l) hn
theorem GA {x:KF h} {l:List Nat} {f:Nat->KF h} (e:∀i,co h l i=f i) {n:Nat} (a:gP n f):vl h x l=cF x f n:=by
 have e1:cF x (co h l) (max n l.length)=cF x f (max n l.length):=nS λi _=>e i;rw[<-Lj h x (Nat.le_max_right n l.length),e1,j9 a (Nat.le_max_left _ _)]
theorem CQ {x:Nat} (a:x<s) {l:List Nat} (hl:aA s l):aS h (hornN s p x l)=vl h (aS h x) l:=JI h a l (wJ hl)
theorem JV {l:List Nat} (c j:Nat):aS h (mJ l c j)=sh (co h l) j+j6 (aS h c) j:=by
 unfold mJ;cases j with
 |zero=>rw[if_pos rfl];show _=0+aS h c;rw[dh]
 |succ j=>rw[if_neg oO];show aS h (l.getD j 0)=co h l j+0;rw[bJ];rfl
theorem CV {l:List Nat} (hl:aA s l) {r c:Nat} (d:r<s) (hc:c<s) (j:Nat):co h (jC s p l r c) j=mx (aS h r) (co h l) j+j6 (aS h c) j:=by
 have f:∀j,mJ l c j<s:=λj=>by
  unfold mJ;split
  ·exact hc
  ·exact hl _
 have e:mx (aS h r) (co h l) j+j6 (aS h c) j=aS h (mJ l c j)-aS h r* co h l j:=by
  rw[JV];show sh (co h l) j-_+_=_;simp only[dQ]
  ac_rfl
 rw[e];show aS h ((jC s p l r c).getD j 0)=_;unfold jC;rw[B9 _ _ _ _ _ _ (Nat.le_refl _)];by_cases a:j<l.length
 ·rw[if_pos a,kY h (f j) (cd h _ _),gr h (hl j) d,cO];rfl
 ·rw[if_neg a,fq h l j oO,cu,ke];by_cases b:j=l.length
  ·rw[if_pos b]
  ·rw[if_neg b,bX];unfold mJ;rw[if_neg oO,j4 oO,bX]
theorem Jw {l:List Nat} (hl:aA s l) {r c:Nat} (a:r<s) (hc:c<s) (x:KF h):vl h x (jC s p l r c)=(x-aS h r)* vl h x l+aS h c:=by
 rw[GA h (CV h hl a hc) (n:=l.length+1) (λi b=>by
  show mx (aS h r) (co h l) i+j6 (aS h c) i=0
  rw[Km (fq h l) i b,CE (aS h c) i oO,bJ])]
 rw[rS,KK (fq h l),j9 (CE (aS h c)) oO,JG];rfl
theorem xd {roots:List Nat} (a:aA s roots) (k:Nat) (x:KF h):vl h x (fromL s p roots (k+1))=(x-aS h (roots.getD k 0))* vl h x (fromL s p roots k):=by
 show vl h x (jC s p (fromL s p roots k) (roots.getD k 0) 0)=_;rw[Jw h (jT h a k) (a k) (by have:=h.aT;omega),bX,bJ]
theorem xr (roots:List Nat) (x:KF h):vl h x (fromL s p roots 0)=1:=by
 show cF x (co h [1]) 1=1;rw[da];show aS h 1+x* 0=1;rw[mP,cu,bJ]
theorem Fe {roots:List Nat} (a:aA s roots) {x:Nat} (d:x<s):∀k,hornN s p x (fromL s p roots k)=0↔∃i,i<k/\roots.getD i 0=x:=by
 have e:∀k,hornN s p x (fromL s p roots k)=0↔vl h (aS h x) (fromL s p roots k)=0:=λk=>by
  rw[<-CQ h d (jT h a k)];constructor
  ·intro e;rw[e,bX]
  ·intro e;rw[<-bX h]at e;exact jt h (zK h x _ (wJ (jT h a k))) (by have:=h.aT;omega) e
 intro k;rw[e]
 induction k with
 |zero=>
  rw[xr];constructor
  ·intro e1;exact absurd e1 (λe2=>by
    rw[<-mP h,<-bX h]at e2;have:=jt h (by have:=h.aT;omega) (by have:=h.aT;omega) e2
    omega)
  ·rintro⟨i,f,_⟩;omega
 |succ k g=>
  rw[xd h a];constructor
  ·intro e1;rcases Dw e1 with e2|e2
   ·rw[kl]at e2;exact⟨k,by omega,(jt h d (a k) e2).symm⟩
   ·obtain⟨i,f,b⟩:=g.1 e2;exact⟨i,by omega,b⟩
  ·rintro⟨i,f,b⟩;by_cases j:i=k
   ·subst j;rw[b,ew,fU]
   ·rw[g.2 ⟨i,by omega,b⟩,cu]
theorem lf {x:Nat} (b:x<s) {w:List Nat} (a:aA s w):∀k,aS h (gU s p x w k)=cF (aS h x) (rv k (co h w)) k
 |0=>bX h
 |k+1=>by
  show aS h (bW s p (aM s p (gU s p x w k) x) (w.getD k 0))=rv (k+1) (co h w) 0+aS h x* cF (aS h x) (dA (rv (k+1) (co h w))) k;have e1:rv (k+1) (co h w) 0=co h w k:=by unfold rv;rw[if_pos oO];rfl
  have e2:cF (aS h x) (dA (rv (k+1) (co h w))) k=cF (aS h x) (rv k (co h w)) k:=nS λi d=>by
   show rv (k+1) (co h w) (i+1)=_;unfold rv;rw[if_pos oO,if_pos d,show k+1-1-(i+1)=k-1-i from by omega]
  rw[lr h (cd h _ _) (a k),gr h (qT h a k) b,lf b a k,e1,e2,fm,cO];rfl
theorem mL (first par:Nat):aA s (cP s p first par):=jT h (rH h first par) par
omit h in
theorem eP (first par:Nat):(cP s p first par).length=par+1:=ko _ _ _ _
omit h in
theorem rR (first par:Nat):(cP s p first par).getD par 0=1:=Gl _ _ _ _
theorem zH (first par:Nat) {j:Nat} (b:j<par):cF (aS h (eH s p (first+j))) (co h (cP s p first par)) (par+1)=0:=by
 have d:hornN s p (eH s p (first+j)) (cP s p first par)=0:=(Fe h (rH h first par) (iF h _) par).2 ⟨j,b,by unfold eX;exact bY _ _ _ b⟩;have a:=CQ h (iF h (first+j)) (mL h first par);rw[d,bX]at a;unfold vl at a;rw[eP]at a;exact a.symm
theorem lG {par:Nat} {data:List Nat} (a:aA s data):aA s (dt par data):=lW h λi _=>by
 split
 ·have:=h.aT;omega
 ·exact a _
theorem pw {par first:Nat} {data:List Nat} (a:aA s data):aA s (eT s p par first data):=tJ h (kH (lG h a))
theorem jq {par first:Nat} {data:List Nat} (d:aA s data):(eT s p par first data).length<=par:=by
 have:=uZ h (a:=fg (dt par data)) (b:=cP s p first par) (kH (lG h d)) (mL h first par) (by rw[eP];omega) (by rw[eP,Nat.add_sub_cancel,rR];omega);rw[eP]at this;unfold eT;omega
theorem vm {par first:Nat} {data:List Nat} (a:aA s data):aA s (eF s p par first data):=lW h λi _=>by
 split
 ·exact a _
 ·exact iM h (by have:=h.aT;omega) (pw h a _)
theorem rP {par first:Nat} {data:List Nat} (f:aA s data):mC s p par first data (eF s p par first data):=by
 refine⟨vm h f,ow _ _ _ _ _,λi g=>?_,λj o=>?_⟩
 ·unfold eF;rw[bY _ _ _ oO,if_pos g]
 ·have q:=iF h (first+j);rw[<-sw h (CZ h (vm h f) j)];unfold ze;rw[lf h q (vm h f),ow];have t:(cP s p first par).getD ((cP s p first par).length-1) 0≠0:=by rw[eP,Nat.add_sub_cancel,rR];omega
  have e:∀d,rv (data.length+par) (co h (eF s p par first data)) d=conv (co h (kx s p (fg (dt par data)) (cP s p first par))) (co h (cP s p first par)) d:=by
   intro d;have n:=div_eq h (a:=fg (dt par data)) (b:=cP s p first par) (kH (lG h f)) (mL h first par) (by rw[eP];omega) d;rw[vK]at n;have e1:rv (data.length+par) (co h (eF s p par first data)) d=co h (dt par data) d-co h (eT s p par first data) d:=by
    unfold rv;by_cases k:d<data.length+par
    ·rw[if_pos k];show aS h ((eF s p par first data).getD (data.length+par-1-d) 0)=aS h ((dt par data).getD d 0)-_;unfold eF dt;rw[bY _ _ _ oO,bY _ _ _ k];by_cases l:d<par
     ·rw[if_neg oO,if_pos l,kY h (by have:=h.aT;omega) (pw h f _),show data.length+par-1-(data.length+par-1-d)=d from by omega];rfl
     ·rw[if_pos oO,if_neg l,fq h _ d (by have:=jq h (par:=par) (first:=first) f;omega),ke]
    ·rw[if_neg k,fq h _ d (by rw[kz];omega),fq h _ d (by have:=jq h (par:=par) (first:=first) f;omega),ew]
   rw[e1,n];exact ou _ _
  have r:gP (data.length+par) (conv (co h (kx s p (fg (dt par data)) (cP s p first par))) (co h (cP s p first par))):=λi g=>by rw[<-e i];exact Kz _ _ i g
  rw[nS λi _=>e i,<-j9 r (m:=(data.length+par+(kx s p (fg (dt par data)) (cP s p first par)).length)+(par+1)) oO,
   GD ((fq h _).mono oO) ((fq h _).mono (by rw[eP];exact Nat.le_refl _)),zH h first par o,cu]
theorem mC.uniq {par first:Nat} {data w w':List Nat} (hn:par<=s-1) (d:mC s p par first data w) (g:mC s p par first data w'):w=w':=by
 refine iH (by rw[d.ln,g.ln]) λi v=>?_;rw[d.ln]at v;by_cases n:i<data.length
 ·rw[d.pre i n,g.pre i n]
 ·let f:Nat->KF h:=λj=>rv (data.length+par) (co h w) j-rv (data.length+par) (co h w') j
  have o:gP par f:=λj l=>by
   show rv (data.length+par) (co h w) j-rv (data.length+par) (co h w') j=0;unfold rv;by_cases k:j<data.length+par
   ·rw[if_pos k,if_pos k];have e1:=d.pre (data.length+par-1-j) oO;have e2:=g.pre (data.length+par-1-j) oO;unfold co;rw[e1,e2,ew]
   ·rw[if_neg k,if_neg k,ew]
  have y:=Bc o ((List.range par).map λj=>alpha h^(first+j))
   (nK (λa z b hb e=>(qE h).inj (by have:=List.mem_range.1 z;omega) (by have:=List.mem_range.1 hb;omega) (iC (rY (GZ h) first) (by rw[<-iZ,<-iZ];exact e))) List.nodup_range) oS (λx A=>by
    obtain⟨j,l,rfl⟩:=List.mem_map.1 A;have l:=List.mem_range.1 l;rw[<-j9 o (Nat.le_add_left par data.length)];show cF _ (λj=>rv (data.length+par) (co h w) j-rv (data.length+par) (co h w') j) _=0;have q:=d.cw j l;have r:=g.cw j l;unfold ze at q r;have t:=lf h (iF h (first+j)) d.lt w.length;have u:=lf h (iF h (first+j)) g.lt w'.length;rw[q,bX,vg,d.ln]at t;rw[r,bX,vg,g.ln]at u
    rw[vx,<-t,<-u,ew])
  have k:=y (data.length+par-1-i);have m:rv (data.length+par) (co h w) (data.length+par-1-i)-rv (data.length+par) (co h w') (data.length+par-1-i)=0:=k;rw[kl]at m;unfold rv at m;rw[if_pos oO,if_pos oO,show data.length+par-1-(data.length+par-1-i)=i from by omega]at m;exact jt h (d.lt i) (g.lt i) m
end
end
section
open Go.RowKit
theorem EZ (W:World) (b n g:Nat) (c:Addr) (a:List Nat) (hn:n=a.length) (o:n<=b) (s:c.block<W.heap.size) (p:∀j,j<(zl a).length->W.cell? (c.add j)=some (.int .i64 ((zl a).getD j 0))):
 ∃d,(Builtin.copy_ #[64,64] 3 #[.slice (some ⟨W.heap.size,0,none⟩) b b,.slice (some c) n g]).run Tryz.prog (W.alloc (.cells (madeCells #[.int .i64 0] b) 3))= .ok (goInt n) d/\bV d W.heap.size (a++List.replicate (b-n) 0)/\Below W.heap.size W d:=by
 have e:n=((zl a).map (Value.int .i64)).length:=by rw[List.length_map,aB];exact hn
 have t:(madeCells #[Value.int .i64 0] b)=(List.replicate b (Value.int .i64 0)).toArray:=by
  apply Array.ext';rw[toList_madeCells_one]
 have m:Below W.heap.size W (W.alloc (.cells (madeCells #[.int .i64 0] b) 3)):=ar _ _;have i:(W.alloc (.cells (madeCells #[.int .i64 0] b) 3)).heap[W.heap.size]?=some (.cells (List.replicate b (Value.int .i64 0)).toArray 3 (0,0)):=by
  rw[<-t];exact heap_alloc_new W (.cells (madeCells #[Value.int .i64 0] b) 3)
 have f:=run_copy_row (P:=Tryz.prog) (W.alloc (.cells (madeCells #[.int .i64 0] b) 3)) 64 64 3 3 W.heap.size 0 b b c n g _ _ ((zl a).map (Value.int .i64)) Tryz.underlying64 Ky i (by rw[<-e];exact(Nat.min_eq_left o).symm) (λj v k=>by
  rw[List.getElem?_map]at k;obtain⟨x,l,rfl⟩:=Option.map_eq_some_iff.1 k;have q:=(List.getElem?_eq_some_iff.1 l).1;rw[m.cell (by rw[aV];exact s),p j q]
  simp[List.getD,l]) (by rw[<-e];simp;omega) (Kx a)
 rw[<-e]at f;have r:(List.take 0 (List.replicate b (Value.int .i64 0)).toArray.toList++(zl a).map (Value.int .i64)++List.drop (0+n) (List.replicate b (Value.int .i64 0)).toArray.toList).toArray=dI (a++List.replicate (b-n) 0):=by
  unfold dI;apply congrArg;rw[List.take_zero,List.nil_append,List.map_append,Nat.zero_add,List.drop_replicate,List.map_replicate];congr 1;unfold zl;rw[List.map_map];rfl
 rw[r]at f;exact⟨_,f,bV.of_heap (setRow_heap _ _ _ _ _ _ i),m.trans (below_setRow (Below.refl _ _) (Nat.le_refl _) _)⟩
def qA (N:Nat) (data:List Nat) (i:Nat):List Nat:=(List.range N).map λj=>if N-1-j<i then data.getD (N-1-j) 0 else 0
theorem pr (N:Nat) (data:List Nat) (i:Nat):(qA N data i).length=N:=by unfold qA;simp
theorem G7 (N:Nat) (data:List Nat):qA N data 0=List.replicate N 0:=by
 refine iH (by rw[pr,List.length_replicate]) λj a=>?_;rw[pr]at a;unfold qA;rw[bY _ _ _ a,if_neg oO];simp[List.getD,a]
theorem GK (N:Nat) (data:List Nat) (i:Nat) (c:i<N):(qA N data i).set (N-1-i) (data.getD i 0)=qA N data (i+1):=by
 unfold qA;rw[fC _ _ _ _ oO];apply List.map_congr_left;intro j a;have a:=List.mem_range.1 a;by_cases e:j=N-1-i
 ·rw[if_pos e,if_pos oO,show N-1-j=i from by omega]
 ·rw[if_neg e];by_cases b:N-1-j<i
  ·rw[if_pos b,if_pos oO]
  ·rw[if_neg b,if_neg oO]
theorem JP (par:Nat) (data:List Nat):qA (data.length+par) data data.length=dt par data:=by
 unfold qA dt;apply List.map_congr_left;intro j a;have a:=List.mem_range.1 a;by_cases b:j<par
 ·rw[if_pos b,if_neg oO]
 ·rw[if_neg b,if_pos oO]
noncomputable def nI (s p N:Nat) (data a:List Nat) (i:Nat):List Nat:=(List.range N).map λj=>if N-1-j<i then bE s p 0 (a.getD (N-1-j) 0)else if j<data.length then data.getD j 0 else 0
theorem pI (s p N:Nat) (data a:List Nat) (i:Nat):(nI s p N data a i).length=N:=by unfold nI;simp
theorem GM (s p N:Nat) (data c:List Nat) (d:data.length<=N):data++List.replicate (N-data.length) 0=nI s p N data c 0:=by
 refine iH (by rw[pI,List.length_append,List.length_replicate];omega) λj b=>?_;rw[List.length_append,List.length_replicate]at b;unfold nI;rw[bY _ _ _ oO,if_neg oO];by_cases a:j<data.length
 ·rw[if_pos a];simp[List.getD,List.getElem?_append_left a]
 ·rw[if_neg a];simp[List.getD,List.getElem?_append_right (show data.length<=j from by omega),show j-data.length<N-data.length from by omega]
theorem H2 (s p N:Nat) (data a:List Nat) (i:Nat) (d:i<N):(nI s p N data a i).set (N-1-i) (bE s p 0 (a.getD i 0))=nI s p N data a (i+1):=by
 unfold nI;rw[fC _ _ _ _ oO];apply List.map_congr_left;intro j b;have b:=List.mem_range.1 b;by_cases e:j=N-1-i
 ·rw[if_pos e,if_pos oO,show N-1-j=i from by omega]
 ·rw[if_neg e];by_cases c:N-1-j<i
  ·rw[if_pos c,if_pos oO]
  ·rw[if_neg c,if_neg (show¬N-1-j<i+1 by omega)]
theorem Jj {c s p:Nat} (h:VF c s p) {par first:Nat} {data:List Nat} (e:aA s data):nI s p (data.length+par) data (eT s p par first data) (eT s p par first data).length=eF s p par first data:=by
 have hl:=jq h (par:=par) (first:=first) e;unfold nI eF;apply List.map_congr_left;intro j b;have b:=List.mem_range.1 b;by_cases a:j<data.length
 ·rw[if_pos a,if_neg oO,if_pos a]
 ·rw[if_neg a,if_neg a];by_cases d:data.length+par-1-j<(eT s p par first data).length
  ·rw[if_pos d]
  ·rw[if_neg d,j4 oO];exact(jt h (iM h (by have:=h.aT;omega) (by have:=h.aT;omega)) (by have:=h.aT;omega) (by rw[kY h (by have:=h.aT;omega) (by have:=h.aT;omega),ew,bX])).symm
theorem BW (C S P:Nat) (a b:List Nat) (v u:Value) (w:World) (h:VF C S P) (f:aA S a) (g:gZ a) (i:a.length<=4097) (hb:aA S b) (j:gZ b) (k:b.length<=4097) (o:b≠[]) (l:bh w v (zl a)) (m:bh w u (zl b)):
 Calls Tryz.prog 115 #[ba C S P,v,u] w λe w'=>∃x y,e= .returned (.tuple #[x,y,.int .i64 0])/\bh w' y (zl (dT S P a b))/\Below w.heap.size w w':=by
 obtain⟨q,rfl,hq,p⟩:=l.sl;obtain⟨r,rfl,n,s⟩:=m.sl;have:=Bu C S P q r w h.qz hq n;rw[p,s]at this;refine this.mono ?_;rintro e w' ⟨x,y,c,z,d,t⟩;have e1:jJ C S P (zl a) (zl b)=(zl (kx S P a b),zl (dT S P a b),0):=by
  unfold jJ;rw[show ns C S P (zl a)=true from by unfold ns;rw[jg h,Ct f i g];rfl,show ns C S P (zl b)=true from by unfold ns;rw[jg h,Ct hb k j];rfl,px,px,if_neg (λe=>o (E2 e))];rfl
 rw[e1]at c d;exact⟨x,y,c,d,t⟩
theorem F8 (C S P x:Nat) (w:World) (h:VF C S P) (b:x<S):
 Calls Tryz.prog 117 #[ba C S P,.int .i64 0,.int .i64 x] w λe w'=>e= .returned (.tuple #[.int .i64 ((bE S P 0 x:Nat):Int),.int .i64 0])/\Below w.heap.size w w':=by
 have:=J2 C S P 0 x w (by have:=h.le;omega) h.qz;refine this.mono λe w' a=>⟨?_,a.2⟩;rw[a.1];have e1:xV C S P 0 x=(((bE S P 0 x:Nat):Int),0):=by
  unfold xV;have:=fJ h (A:=0) (B:=x) (by have:=h.aT;omega) b;rw[if_pos (by simpa using this)];simp
 rw[e1]
theorem sK (C S P par first:Nat) (data:List Nat) (m:Nat) (A:Option Addr) (M:Nat) (w:World) (h:eo C S P par first) (X:m=data.length) (hl:aA S data) (Y:1<=m) (O:m+par<=S-1) (Q:RD w A (zl data)):
 Calls Tryz.prog 62 #[cQ C S P par first,.slice A m M] w (iB w (zl (eF S P par first data),0)):=by
 obtain⟨ds,ca,d7,d8,d9⟩:=info_parts dd;have g:=Lib.hid h;obtain⟨s3,dx⟩:=h.s3;have ea:=h.p1;have E:=jW w C S P par first
 have b6:Hid (Below w.heap.size w (w.alloc (gW C S P par first))):=(Below.refl _ _).alloc (Nat.le_refl _) _;obtain⟨N,a1⟩:∃N,m+par=N:=⟨_,rfl⟩;have ec:(m:Int)+(par:Int)=(N:Int):=oO;have ed:N<=4095:=oO;have ck:m<=N:=oO;obtain⟨T,rfl,G,d⟩:=Q (by rw[aB];omega);have a2:=Lib.hid Q;have dl:=Lib.hid G;have U:=Lib.hid hl;have b:=Lib.hid X;have H:=Lib.hid a1;have b9:Hid (∀W,Calls Tryz.prog 113 #[cQ C S P par first,.int .i64 N] W λe w'=>e= .returned (.bool true)/\Below W.heap.size W w'):=λW=>FJ C S P par first N W oO oO
 have b7:Hid (∀W,af w W->Calls Tryz.prog 112 #[cQ C S P par first,.slice (some T) m M] W λe w'=>e= .returned (.bool true)/\Below W.heap.size W w'):=λW l=>uV C S P par first data m (some T) M W h X hl oO (Q.below l)
 have co:=run_make_row' (P:=Tryz.prog) 64 3 (.int .i64 0) 8 Tryz.underlying64 dd rfl .i64 .i64 N oO oO;have cb:((m:Int)==0)=false:=by rw[beq_eq_false_iff_ne];omega
 obtain⟨n,o,t,v,z⟩:=E.out _ (Below.refl _ _);clear h hl Q G d X a1 O;go_enter Tryz.func62,Tryz.ntmps62
 go_wp2_with(first
  |(go_at_call 112;refine(b7.out _ b6.out).mono ?_;rintro e w1 ⟨rfl,a9⟩;have ac:=Lib.hid a9;clear a9 n o t v z;obtain⟨n,o,t,v,z⟩:=E.out _ ac.out)
  |(go_at_call 113;refine(b9.out _).mono ?_;rintro e w2 ⟨rfl,bb⟩;have ad:=Lib.hid (ab ac.out bb);clear bb n o t v z;obtain⟨n,o,t,v,z⟩:=E.out _ ad.out)
  |(go_at_call 114;refine(vS C S P par first _ g.out).mono ?_;rintro e c ⟨a3,rfl,bd,be⟩;have bf:=Lib.hid bd;have F:=Lib.hid (ab ad.out be);clear be bd n o t v z;obtain⟨n,o,t,v,z⟩:=E.out _ F.out))
 clear n o t v z ac ad cb;have bi:Hid (Below c.heap.size c (c.alloc (.cells (madeCells #[.int .i64 0] N) 3))/\bV (c.alloc (.cells (madeCells #[.int .i64 0] N) 3)) c.heap.size (qA N data 0)):=by
  rw[G7];exact⟨ar _ _,bV.made _ _ _ _ rfl⟩
 have bo:Hid (∀W,af c W->af w W):=λW l=>ab (ab b6.out F.out) l;go_loopw [51] (λB wr=>∃i:Nat,i<=m/\B= .int .i64 i/\Hid (Below c.heap.size c wr/\bV wr c.heap.size (qA N data i))) (λB _=>m-(intOf B).toNat)
 case atStart=>exact⟨0,Nat.zero_le _,rfl,bi⟩
 case round=>
  obtain⟨i,ca,rfl,f⟩:=hrel;by_cases cp:i<m
  ·obtain⟨cq,e,G,d⟩:=(a2.out.below (bo.out _ f.out.1)) (by rw[aB,<-b.out];omega);cases e;have Z:=d i (by rw[aB,<-b.out];exact cp);rw[dV]at Z;have K:Hid (_=_):=GK N data i oO;obtain⟨r,J⟩:∃r,r=N-1-i:=⟨_,rfl⟩;have cr:(N:Int)-1-(i:Int)=(r:Int):=oO;have al:r<N:=oO;rw[<-J]at K;obtain⟨c1,ce⟩:=f.out.2.2 r (by rw[pr];exact al);generalize data.getD i 0=y at*;generalize am:(qA N data i).getD r 0=u at*;clear d J am G;go_wp2;exact⟨⟨i+1,by omega,by go_num,by rw[<-K.out];exact⟨f.out.1.setCell (Nat.le_refl _) _,f.out.2.set _ _⟩⟩,by simp[intOf];omega⟩
  ·have cs:i=m:=oO;subst cs;have cv:Hid (bV wr c.heap.size (dt par data)):=by
    have:=f.out.2;rw[<-H.out,b.out,JP]at this;exact this
   have ap:=Lib.hid (bo.out _ f.out.1);have cx:Hid (bh wr a3 (zl (cP S P first par))):=bf.out.below f.out.1;have bq:N=(dt par data).length:=by rw[kz,<-b.out];exact H.out.symm
   have c2:=Lib.hid bq;have HC:Hid (∀W,af wr W->W.cell? ⟨w.heap.size,0,none⟩=some (.int .i64 C)/\W.cell? ⟨w.heap.size,1,none⟩=some (.int .i64 S)/\W.cell? ⟨w.heap.size,2,none⟩=some (.int .i64 P)):=by
    show∀W,_;intro W l;obtain⟨a4,Y,O,-⟩:=E.out _ ((F.out.trans (f.out.1.mono F.out.size)).trans (l.mono (Nat.le_trans F.out.size f.out.1.size)));exact⟨a4,Y,O⟩
   clear bq bi bf F b9 b7 E;go_wp2;refine yO (af wr) [1,2,3,5,0,4,6,0,7,8,9,10,11,12,13] (ak (Below.refl _ _)) ?_
   repeat refine zO HC.out ?_
   refine zZ ?_;refine(zD (dt par data) N c2.out _ N _ oO (Nat.le_refl _) (cv.out.below (ak (Below.refl _ _))).rd).mono ?_;rintro e a5 ⟨cg,rfl,bs,bt⟩;have c3:=Lib.hid bs;have av:Hid (af wr a5):=ab (ak (Below.refl _ _)) bt;clear bs bt;refine⟨_,rfl,av.out,jO ?_⟩
   repeat refine zO HC.out ?_
   refine zZ ?_;refine(BW C S P (fg (dt par data)) (cP S P first par) cg a3 a5 g.out.vf (kH (lG g.out.vf U.out)) (qy _) (by rw[rC];have:=kz par data;have:=Jb (dt par data) (dt par data).length;have:=H.out;have:=b.out;omega) (mL g.out.vf first par) (.inr (by rw[eP,Nat.add_sub_cancel,rR];omega)) (by rw[eP];omega) (λe=>by have:=eP (s:=S) (p:=P) first par;rw[e]at this;simp at this) c3.out (cx.out.below av.out)).mono ?_;rintro e a ⟨dy,ch,rfl,bv,bx⟩;have b1:Hid (bh a ch (zl (eT S P par first data))):=bv;have L:Hid (af wr a):=ab av.out bx;clear bv bx;refine⟨_,rfl,L.out,jO ?_⟩
   repeat refine zO HC.out ?_
   refine ag ?_;obtain⟨d0,d1,rfl,-,-,b2⟩:=bh.nat b1.out;have c4:=Lib.hid b2;have b3:Hid ((eT S P par first data).length<=N):=by show _<=_;have:=jq g.out.vf (par:=par) (first:=first) U.out;have:=H.out;omega
   have c5:Hid (aA S (eT S P par first data)):=pw g.out.vf U.out;have b8:Hid (nI S P N data (eT S P par first data) (eT S P par first data).length=eF S P par first data):=by
    have:=Jj g.out.vf (par:=par) (first:=first) U.out;rw[<-b.out,H.out]at this;exact this
   clear b2
   obtain⟨a6,c6,a0,b4⟩:=EZ a N i M T data b.out ck (by
    have a4:T.block<w.heap.size:=dl.out;have Y:=ap.out.size;have O:=L.out.size
    omega) (by
    obtain⟨cq,e,-,d⟩:=(a2.out.below (ab ap.out L.out)) (by rw[aB,<-b.out];omega);cases e
    exact d)
   rw[b.out,GM S P N data (eT S P par first data) (by have:=b.out;omega)]at a0;have c7:Hid (Below a.heap.size a a6/\bV a6 a.heap.size (nI S P N data (eT S P par first data) 0)):=⟨b4,a0⟩;clear a0 b4;generalize c8:eT S P par first data=j at*
   obtain⟨q,hq⟩:∃q,q=j.length:=⟨_,rfl⟩;have a7:=Lib.hid hq;rw[<-hq]at b3 b8;have ef:q<=N:=b3.out;rw[<-hq];clear c8 hq b1;go_wp2;clear c6 co;go_loopw [84] (λB wr=>∃k:Nat,k<=q/\B= .int .i64 k/\Hid (Below a.heap.size a wr/\bV wr a.heap.size (nI S P N data j k))) (λB _=>q-(intOf B).toNat)
   case atStart=>exact⟨0,Nat.zero_le _,rfl,c7⟩
   case round=>
    obtain⟨k,d2,rfl,D⟩:=hrel;by_cases dm:k<q
    ·obtain⟨d3,rfl,G,d⟩:=(c4.out.below D.out.1) (by rw[aB,<-a7.out];omega);have Z:=d k (by rw[aB,<-a7.out];exact dm);rw[dV]at Z;have K:Hid (_=_):=H2 S P N data j k oO;obtain⟨r,J⟩:∃r,r=N-1-k:=⟨_,rfl⟩;have cr:(N:Int)-1-(k:Int)=(r:Int):=oO;have al:r<N:=oO;rw[<-J]at K;have ci:Hid (j.getD k 0<S):=c5.out k;obtain⟨d4,d5,d6⟩:=HC.out _ (ab L.out D.out.1);have dn:Hid (∀W,af wr W->W.cell? ⟨a.heap.size,r,none⟩=some (.int .i64 (((nI S P N data j k).getD r 0:Nat):Int))/\W.frozen? ⟨a.heap.size,r,none⟩=false):=by
      show∀W,_;intro W l;exact(D.out.2.below l).2 r (by rw[pI];exact al)
     generalize j.getD k 0=x at*;generalize am:(nI S P N data j k).getD r 0=u at*;clear d J am G;go_wp2_with(go_at_call 117;refine(F8 C S P x _ g.out.vf ci.out).mono ?_;rintro e a8 ⟨rfl,V⟩;have b5:Hid (Below a.heap.size a a8/\bV a8 a.heap.size (nI S P N data j k)):=⟨ab D.out.1 V,D.out.2.below V⟩;obtain⟨c1,ce⟩:=dn.out _ V;clear V)
     exact⟨⟨k+1,by omega,by go_num,by rw[<-K.out];exact⟨b5.out.1.setCell (Nat.le_refl _) _,b5.out.2.set _ _⟩⟩,by simp[intOf];omega⟩
    ·have c9:k=q:=oO;subst c9;go_wp2;go_ret2
     refine iB.mk rfl ?_ (ab (ab ap.out L.out) D.out.1);rw[<-b8.out];exact D.out.2.ints (pI _ _ _ _ _ _).symm (Nat.le_refl _) oM
section
variable (C S P a b : Nat) (w : World) (hv : VF C S P) (ha : a < S) (hb : b < S)
include hv ha hb
theorem I0:Calls Tryz.prog 146 #[ba C S P,.int .i64 a,.int .i64 b] w λe w'=>e= .returned (.int .i64 ((bW S P a b:Nat):Int))/\Below w.heap.size w w':=by
 have:=Fz C S P a b w hv oO oO oO oO;simpa using this
theorem yS:Calls Tryz.prog 147 #[ba C S P,.int .i64 a,.int .i64 b] w λe w'=>e= .returned (.int .i64 ((bE S P a b:Nat):Int))/\Below w.heap.size w w':=by
 have:=Dx C S P a b w hv oO oO oO oO;simpa using this
theorem uO:Calls Tryz.prog 148 #[ba C S P,.int .i64 a,.int .i64 b] w λe w'=>e= .returned (.int .i64 ((aM S P a b:Nat):Int))/\Below w.heap.size w w':=by
 have:=lY C S P a b w hv oO oO oO oO;simpa using this
end
theorem Ck (C S P b:Nat) (w:World) (hv:VF C S P) (hb:b<S):Calls Tryz.prog 147 #[ba C S P,.int .i64 0,.int .i64 b] w λe w'=>e= .returned (.int .i64 ((bE S P 0 b:Nat):Int))/\Below w.heap.size w w':=yS C S P 0 b w hv (by have:=hv.aT;omega) hb
theorem Dk (C S P par first:Nat) (w:World) (h:eo C S P par first):
 Calls Tryz.prog 121 #[cQ C S P par first] w λe w'=>e= .returned (.bool true)/\Below w.heap.size w w':=by
 have d:=Lib.hid h;obtain⟨s3,p⟩:=h.s3;have q:=h.p1;have r:=h.p2;have s:=h.f2;have f:=jW w C S P par first
 have t:Hid (Below w.heap.size w (w.alloc (gW C S P par first))):=(Below.refl _ _).alloc (Nat.le_refl _) _;obtain⟨c,o⟩:∃c,S=c+2:=⟨S-2,by omega⟩;subst o;have e1:((c+2:Nat):Int)-2=(c:Int):=oO;obtain⟨g,i,j,k,l⟩:=f.out _ (Below.refl _ _);clear h;go_enter Tryz.func121,Tryz.ntmps121;go_wp2_with(go_at_call 166;refine(D8 C (c+2:Nat) P _ oO d.out.vf.qz).mono ?_;rintro e w1 ⟨rfl,m⟩;rw[jg d.out.vf];have n:=Lib.hid m;clear m g i j k l;obtain⟨g,i,j,k,l⟩:=f.out _ n.out)
 go_ret;exact⟨aN oT,cN n.out⟩
theorem Fo (C S P:Nat) (l:List Nat) (n:Nat) (A:Option Addr) (q:Nat) (w:World) (hn:n=l.length) (hl:aA S l) (z:n<=100000000) (hs:S<=4096) (ha:RD w A (zl l)):
 Calls Tryz.prog 122 #[ba C S P,.slice A n q] w λe w'=>e= .returned (.bool true)/\Below w.heap.size w w':=by
 have r:=Lib.hid ha;have f:=Lib.hid hn;have s:=Lib.hid hl;have t:Hid (ai (w.alloc (iT C S P)) w.heap.size (oP C S P)):=ai.new _ _ _ _ rfl;clear ha hn hl;go_enter Tryz.func122,Tryz.ntmps122;go_wp2;go_loopw [5] (λc wr=>∃i:Nat,i<=n/\c= .int .i64 i/\Hid (af (w.alloc (iT C S P)) wr)) (λc _=>n-(intOf c).toNat)
 case atStart=>exact⟨0,Nat.zero_le _,rfl,Below.refl _ _⟩
 case round=>
  obtain⟨i,B,rfl,hB⟩:=hrel;by_cases y:i<n
  ·obtain⟨u,rfl,p,k⟩:=(r.out.below (ab (ar _ _) hB.out)) (by rw[aB,<-f.out];omega);have d:=k i (by rw[aB,<-f.out];exact y);rw[dV]at d;have v:Hid (l.getD i 0<S):=s.out i;generalize l.getD i 0=x at*;have g:Hid (∀W,af wr W->(W.cell? ⟨w.heap.size,0,none⟩=some (.int .i64 C)/\W.cell? ⟨w.heap.size,1,none⟩=some (.int .i64 S)/\W.cell? ⟨w.heap.size,2,none⟩=some (.int .i64 P))/\W.cell? (u.add i)=some (.int .i64 (x:Int))):=by
    show∀W,_;intro W j;exact⟨kQ (t.out.below (ab hB.out j)),(j.cell (by rw[aV];exact p)).trans d⟩
   clear k p;go_wp2;clear d;refine yO (af wr) [1,2,3,4,5,0,6,0,7] (ak (Below.refl _ _)) ?_
   repeat refine zO g.out ?_
   refine zZ ?_;refine(KR C S P x _).mono ?_;rintro e w2 ⟨rfl,m⟩;rw[zh v.out];have o:Hid (af wr w2):=ab (ak (Below.refl _ _)) m;clear m;refine⟨_,rfl,o.out,jO ?_⟩
   repeat refine zO g.out ?_
   refine ag ?_;go_wp2;exact⟨⟨i+1,by omega,by go_num,ab hB.out o.out⟩,by simp[intOf];omega⟩
  ·go_wp2;go_ret;exact⟨rfl,cN hB.out⟩
theorem vQ {c s p:Nat} (h:VF c s p) (j:Nat):eH s p j=fpowN s p (ay s p) j:=
 jt h (iF h _) (mS h _ _) (by rw[vg,vk h (gv h).2.1];rfl)
theorem Ic {c s p:Nat} (h:VF c s p) (j:Nat):aM s p (eH s p j) (ay s p)=eH s p (j+1):=by
 rw[vQ h,vQ h];rfl
theorem Em (s p first i:Nat):eX s p first (i+1)=eX s p first i++[eH s p (first+i)]:=by
 unfold eX;rw[List.range_succ,List.map_append];rfl
theorem Eg (C S P par first:Nat) (w:World) (h:eo C S P par first):
 Calls Tryz.prog 185 #[cQ C S P par first] w λe w'=>∃v,e= .returned v/\bh w' v (zl (eX S P first par))/\Below w.heap.size w w':=by
 obtain⟨z,A,J,K,L⟩:=info_parts dd;have a:=Lib.hid h;obtain⟨s3,ad⟩:=h.s3;have al:=h.p1;have B:=h.p2;have D:=h.f2;have hg:=jk h.vf;have m:=jW w C S P par first
 have a6:Hid (Below w.heap.size w (w.alloc (gW C S P par first))):=(Below.refl _ _).alloc (Nat.le_refl _) _;have M:Hid (∀W,Calls Tryz.prog 213 #[ba C S P,.int .i64 ((ay S P:Nat):Int),.int .i64 first] W λe w'=>e= .returned (.int .i64 ((eH S P (first+0):Nat):Int))/\Below W.heap.size W w'):=by
  show∀W,_;intro W;have:=Da C S P (ay S P) first W a.out.vf hg oO
  rw[Nat.add_zero,vQ a.out.vf];exact this
 have N:Hid (∀W,Calls Tryz.prog 210 #[ba C S P] W λe w'=>e= .returned (.int .i64 ((ay S P:Nat):Int))/\Below W.heap.size W w'):=λW=>xe C S P W a.out.vf;have O:Hid (∀W i,Calls Tryz.prog 148 #[ba C S P,.int .i64 ((eH S P (first+i):Nat):Int),.int .i64 ((ay S P:Nat):Int)] W λe w'=>e= .returned (.int .i64 ((eH S P (first+(i+1)):Nat):Int))/\Below W.heap.size W w'):=by
  show∀W i,_;intro W i;have:=uO C S P (eH S P (first+i)) (ay S P) W a.out.vf (iF a.out.vf _) hg;rw[Ic a.out.vf]at this;exact this
 have a7:par<=4094:=oO;obtain⟨b,c,j,k,l⟩:=m.out _ (Below.refl _ _);clear h hg B D;generalize ay S P=G at*;go_enter Tryz.func185,Tryz.ntmps185
 go_wp2_with(first
  |(go_at_call 210;refine(N.out _).mono ?_;rintro e w1 ⟨rfl,s⟩;have t:=Lib.hid s;clear s b c j k l;obtain⟨b,c,j,k,l⟩:=m.out _ t.out)
  |(go_at_call 213;refine(M.out _).mono ?_;rintro e w2 ⟨rfl,u⟩;have Q:=Lib.hid (ab t.out u);clear u b c j k l))
 go_loopw [4,5,6] (λE rv o wr=>∃i:Nat,i<=par/\o= .int .i64 i/\rv= .int .i64 ((eH S P (first+i):Nat):Int)/\Hid (af (w.alloc (gW C S P par first)) wr)/\Hid (wr.ownsRow (w.heap.size+1) 3 1 E i ((eX S P first i).map vN))) (λ_ _ o _=>par-(intOf o).toNat)
 case atStart=>exact⟨0,Nat.zero_le _,rfl,rfl,Q.out,World.ownsRow_nil _ _ _ _⟩
 case round=>
  obtain⟨i,a3,rfl,rfl,hB,n⟩:=hrel;obtain⟨am,cc,rfl⟩:=bT n.out;obtain⟨b,c,j,k,l⟩:=m.out _ hB.out;by_cases a4:i<par
  ·have F:=Lib.hid (λW=>O.out W i);have T:Hid (eX S P first (i+1)=eX S P first i++[eH S P (first+i)]):=Em S P first i
   generalize eH S P (first+i)=r at*;generalize x:eH S P (first+(i+1))=ap at*;have U:=Lib.hid x;clear x;have a5:i<=4094:=oO;have V:Hid (w.heap.size+1<=wr.heap.size):=by show _<=_;have:=hB.out.size;simp at this;omega
   go_wp2_with(first
    |(at_builtin;refine aD (f:=vN) (d:=0) mY rfl _ _ _ rfl (w.heap.size+1) 3 z _ 8 Tryz.underlying64 A J K L rfl _ i (eX S P first i) rfl (n.out.alloc _) (some ⟨wr.heap.size,0,none⟩) 1 1 [r] rfl rfl (RG.one _ _ _ _ rfl) oM oO (by have:=V.out;simp;omega) ?_;intro av H q hg;obtain⟨a0,a1,rfl⟩:=bT q;have X:=Lib.hid q;have y:Hid (af (w.alloc (gW C S P par first)) H):=(ae hB.out _).grown hg (by have:=hB.out.size;simp;simp at this;omega) (λg Y=>by have:=(n.out.lt g Y).1;simp;omega);clear q hg b c j k l;obtain⟨b,c,j,k,l⟩:=m.out _ y.out)
    |(go_at_call 148;refine(F.out _).mono ?_;rintro e a2 ⟨rfl,p⟩;have Z:=Lib.hid (ab y.out p);have ac:=Lib.hid (ah X.out p);clear p))
   exact⟨⟨i+1,by omega,by go_num,by rw[U.out],Z.out,by rw[T.out];exact ac.out⟩,by simp[intOf];omega⟩
  ·obtain rfl:i=par:=oO;go_wp2;go_ret;exact⟨_,rfl,bh.I1 (SG.bU (f:=vN) (d:=0) n.out),cN hB.out⟩
theorem iD.Ku (w:World) (C S P n:Nat) (a:TypeId):iD w ((w.alloc (iT C S P)).alloc (.cells (madeCells #[Value.int .i64 0] n) a)) (oP C S P) (List.replicate n 0):=
 ⟨((Below.refl _ _).alloc (Nat.le_refl _) _).alloc oS _,(ai.new _ _ _ _ rfl).alloc _,bV.made _ _ _ _ oS⟩
theorem Aw (C S P N:Nat) (a b:List Nat) (A B:Option Addr) (n m al am:Nat) (w:World) (l:VF C S P) (E:aA S a) (Q:aA S b) (hn:n=a.length) (p:m=b.length) (b3:1<=n) (b4:1<=m) (b5:n<=4097) (b6:m<=4097) (b7:1<=N) (b8:N<=8193)
 (G:RD w A (zl a)) (hb:RD w B (zl b)):
 Calls Tryz.prog 170 #[ba C S P,.slice A n al,.slice B m am,.int .i64 N] w λe w'=>∃v,e= .returned v/\(bh w' v (zl (gO S P a b (min N (n+m-1)) a.length 0))/\Below w.heap.size w w')/\Jc w v:=by
 obtain⟨L,H⟩:∃L,L=n+m-1:=⟨_,rfl⟩;rw[<-H];obtain⟨d,J⟩:∃d,d=min N L:=⟨_,rfl⟩;rw[<-J];have a7:max (0:Int) ((n:Int)+(m:Int)-1)=(L:Int):=oO;have a8:min (N:Int) (L:Int)=(d:Int):=oO;have b9:1<=d:=oO;have ca:d<=8193:=oO;have a9:=run_make_row' (P:=Tryz.prog) 64 3 (.int .i64 0) 8 Tryz.underlying64 dd rfl .i64 .i64 d oO oO;have r:=Lib.hid l;have bb:=Lib.hid E;have bd:=Lib.hid Q;have ap:=Lib.hid G;have av:=Lib.hid hb;have a0:=Lib.hid (Et l a b d);have Y:Hid (∀i j,(gO S P a b d i j).length=d):=λi j=>pP _ _ _ _ _ _ _;have b1:Hid (∀i j:Nat,i+j<d->(gO S P a b d i j).set (i+j) (bW S P ((gO S P a b d i j).getD (i+j) 0) (aM S P (a.getD i 0) (b.getD j 0)))=gO S P a b d i (j+1)):=λi j be=>Io l a b be;have ad:Hid (∀i j,(j=m\/d<=i+j)->gO S P a b d i j=gO S P a b d (i+1) 0):=λi j a1=>Iq l a b E (by rw[<-p];exact a1);have bf:Hid (∀i j,aA S (gO S P a b d i j)):=λi j=>Gg l a b d i j;have s:=Lib.hid hn;have K:=Lib.hid p;clear l E Q G hb hn p H J;go_enter Tryz.func170,Tryz.ntmps170;go_wp2;clear a9 a7 a8;go_loopw [10] (λi wr=>∃k:Nat,k<=n/\i= .int .i64 k/\Hid (iD w wr (oP C S P) (gO S P a b d k 0))) (λi _=>n-(intOf i).toNat)
 case atStart=>exact⟨0,Nat.zero_le _,rfl,by rw[a0.out];exact iD.Ku w C S P d _⟩
 case round=>
  obtain⟨k,b2,rfl,t⟩:=hrel;by_cases bi:k<n
  ·go_wp2;obtain⟨M,rfl⟩:∃M:World,M=wr:=⟨_,rfl⟩;go_loopw [11] (λj wr=>∃q:Nat,q<=m/\j= .int .i64 q/\Hid (iD w wr (oP C S P) (gO S P a b d k q))) (λj _=>m-(intOf j).toNat)
   case atStart=>exact⟨0,Nat.zero_le _,rfl,t⟩
   case round=>
    obtain⟨q,hq,rfl,f⟩:=hrel;by_cases bt:q<m
    ·by_cases bv:k+q<d
     ·obtain⟨a2,rfl,Z,T⟩:=(ap.out.below f.out.B) (by rw[aB,<-s.out];omega);have z:=T k (by rw[aB,<-s.out];exact bi);rw[dV]at z;obtain⟨a3,rfl,ac,U⟩:=(av.out.below f.out.B) (by rw[aB,<-K.out];omega);have D:=U q (by rw[aB,<-K.out];exact bt);rw[dV]at D;have a4:Hid (a.getD k 0<S):=bb.out k;have a5:Hid (b.getD q 0<S):=bd.out q;have bx:Hid (_=_):=b1.out k q bv;have a6:Hid ((gO S P a b d k q).getD (k+q) 0<S):=bf.out k q _;have F:=f.out.O.2 (k+q) (by rw[Y.out];omega);generalize a.getD k 0=x at*;generalize bo:b.getD q 0=y at*;generalize bq:(gO S P a b d k q).getD (k+q) 0=u at*;have o:Hid (∀W,af wr W->(W.cell? ⟨w.heap.size,0,none⟩=some (.int .i64 C)/\W.cell? ⟨w.heap.size,1,none⟩=some (.int .i64 S)/\W.cell? ⟨w.heap.size,2,none⟩=some (.int .i64 P))/\W.cell? ⟨w.heap.size+1,k+q,none⟩=some (.int .i64 (u:Int))/\W.frozen? ⟨w.heap.size+1,k+q,none⟩=false/\W.cell? (a2.add k)=some (.int .i64 (x:Int))/\W.cell? (a3.add q)=some (.int .i64 (y:Int))):=by
       show∀W,_;intro W g;exact⟨kQ (f.out.X.below g),(g.cell f.out.O.1).trans F.1,(g.frozen f.out.O.1).trans F.2,(g.cell (by rw[aV];exact Z)).trans z,(g.cell (by rw[aV];exact ac)).trans D⟩
      clear bo bq U F z D T Z ac;have cb:(0:Int)<=(k:Int)+q:=oO;have ce:(k:Int)+q<(d:Int):=oO;have cg:((k:Int)+q).toNat=k+q:=oO;have bs:IntKind.i64.wrap ((k:Int)+q)=(k:Int)+q:=aJ _ oO oO;go_wp2;refine du (S:=af wr) 23 oK oK (ak (Below.refl _ _)) ?_;simp only[List.take_succ_cons,List.take_zero,List.drop_succ_cons,List.drop_zero]
      repeat refine kO o.out ?_
      refine kX (λW g=>uO C S P x y W r.out a4.out a5.out) ?_
      repeat refine kO o.out ?_
      refine kX (λW g=>I0 C S P u (aM S P x y) W r.out a6.out (cd r.out _ _)) ?_
      repeat refine kO o.out ?_
      refine eO ?_;intro w1 V;have X:=Lib.hid V;clear V;obtain⟨-,ch,ci,-⟩:=o.out w1 X.out;go_wp2;clear bs;exact⟨⟨q+1,by omega,by go_num,by rw[<-bx.out];exact(f.out.below X.out).set _ _⟩,by simp[intOf];omega⟩
     ·go_wp2;exact⟨⟨k+1,by omega,by go_num,by rw[<-ad.out k q (.inr oO)];exact f⟩,by simp[intOf];omega⟩
    ·obtain rfl:q=m:=oO;go_wp2;exact⟨⟨k+1,by omega,by go_num,by rw[<-ad.out k q (.inl rfl)];exact f⟩,by simp[intOf];omega⟩
  ·obtain rfl:k=n:=oO;go_wp2;go_ret;refine⟨_,rfl,⟨?_,t.out.B⟩,Jc.mk oO⟩;have O:=t.out.O.ints (c:=d) (Y.out _ _).symm (Nat.le_refl _) oM;rw[s.out]at O;exact O
section
open Fl
variable {c s p : Nat} (h : VF c s p)
include h
theorem Er {a b:Nat} (d:a<s) (hb:b<s):aA s [a,b]:=λi=>by
 match i with
 |0=>exact d
 |1=>exact hb
 |i+2=>have:=h.aT;simp[List.getD];omega
theorem Kw {a b:Nat} (g:a<s) (hb:b<s) (f:Nat->KF h) (m:Nat):conv f (co h [a,b]) m=aS h a* f m+aS h b* sh f m:=by
 rw[FW];cases m with
 |zero=>show aS h a* f 0=aS h a* f 0+aS h b* 0;rw[cu,bJ]
 |succ m=>
  rw[dH];show aS h a* f (m+1)+conv (dA (co h [a,b])) f m=aS h a* f (m+1)+aS h b* f m
  have e:conv (dA (co h [a,b])) f m=conv (j6 (aS h b)) f m:=tQ (λk _=>by
   show co h [a,b] (k+1)=j6 (aS h b) k;unfold j6;by_cases d:k=0
   ·subst d;rfl
   ·rw[if_neg d];exact fq h [a,b] (k+1) oT) (λ_ _=>rfl)
  rw[e,zt]
theorem KJ {out:List Nat} (a:aA s out) {r:Nat} (b:r<s) (j:1<=out.length):gO s p out [bE s p 0 r,1] (out.length+1) out.length 0=jC s p out r 0:=by
 have g:=h.aT;have e:bE s p 0 r<s:=iM h oO b
 refine D5 h (Gg h _ _ _ _ _) (by
  intro i;have:=jT h (roots:=[r]) (λi=>by match i with|0=>exact b|i+1=>simp[List.getD];omega) 0;unfold jC;rw[B9 _ _ _ _ _ _ (Nat.le_refl _)];unfold mJ;split
  ·exact iM h (by split<;>first|omega|exact a _) (cd h _ _)
  ·split
   ·split<;>first|omega|exact a _
   ·omega) (by rw[pP];unfold jC;rw[l6]) λm=>?_
 rw[CV h a b oO,bX];by_cases f:m<out.length+1
 ·rw[Kt h a (Er h e oO) f,Kw h e oO,mP,gf];show _=sh (co h out) m-aS h r* co h out m+j6 0 m;have d:j6 (0:KF h) m=0:=by unfold j6;split<;>rfl
  rw[d,bJ,kY h oO b,bX,dQ,dQ,dh,pY,fm]
 ·rw[fq h _ m (by rw[pP];omega)];show _=sh (co h out) m-aS h r* co h out m+j6 0 m;have d:j6 (0:KF h) m=0:=by unfold j6;split<;>rfl
  obtain⟨k,rfl⟩:∃k,m=k+1:=⟨m-1,by omega⟩;show 0=co h out k-aS h r* co h out (k+1)+j6 0 (k+1);rw[d,fq h _ k oO,fq h _ (k+1) oO,cu,ew,bJ]
end
theorem vP (C S P par first:Nat) (w:World) (h:eo C S P par first):
 Calls Tryz.prog 145 #[cQ C S P par first] w λe w'=>∃v,e= .returned v/\bh w' v (zl (cP S P first par))/\Below w.heap.size w w':=by
 have a:=Lib.hid h;obtain⟨s3,a9⟩:=h.s3;have n:=h.p1;have d:=h.p2;have o:=jW w C S P par first
 have bi:Hid (Below w.heap.size w (w.alloc (gW C S P par first))):=(Below.refl _ _).alloc (Nat.le_refl _) _;have al:Hid (bh ((w.alloc (gW C S P par first)).alloc (.cells #[.int .i64 1] 3)) (.slice (some ⟨w.heap.size+1,0,none⟩) 1 1) (zl [1])):=bh.lit _ [1] 3 _ 1 oS rfl oO;have r:Hid (aA S (eX S P first par)):=rH h.vf first par
 have bo:par<=4094:=oO;have s:Hid (af (w.alloc (gW C S P par first)) ((w.alloc (gW C S P par first)).alloc (.cells #[.int .i64 1] 3))):=ar _ _;obtain⟨O,Q,T,U,V⟩:=o.out _ s.out;clear h d;go_enter Tryz.func145,Tryz.ntmps145;go_wp2_with(go_at_call 185;refine(Eg C S P par first _ a.out).mono ?_;rintro e w1 ⟨bb,rfl,t,l⟩;obtain⟨bd,be,rfl,-,-,u⟩:=bh.nat t;rw[iR];have am:=Lib.hid u;have z:=Lib.hid (ab s.out l);have ap:=Lib.hid (al.out.below l);clear u t l O Q T U V)
 go_loopw [3,5] (λX f wr=>∃i:Nat,i<=par/\f= .int .i64 i/\Hid (bh wr X (zl (fromL S P (eX S P first par) i)))/\Hid (af w1 wr)) (λ_ f _=>par-(intOf f).toNat)
 case atStart=>exact⟨0,Nat.zero_le _,rfl,ap,Below.refl _ _⟩
 case round=>
  obtain⟨i,bf,rfl,g,hB⟩:=hrel;by_cases av:i<par
  ·obtain⟨p,A,rfl,-,-,B⟩:=bh.nat g.out;have a0:=Lib.hid B;clear B;have b:Hid ((fromL S P (eX S P first par) i).length=i+1):=ko _ _ _ _;have D:Hid (aA S (fromL S P (eX S P first par) i)):=jT a.out.vf r.out i;have j:Hid ((eX S P first par).getD i 0<S):=r.out i;have a1:Hid (gO S P (fromL S P (eX S P first par) i) [bE S P 0 ((eX S P first par).getD i 0),1] (i+1+1) (i+1) 0=fromL S P (eX S P first par) (i+1)):=by
    have:=KJ a.out.vf D.out j.out (by rw[b.out];omega);rw[b.out]at this;exact this
   obtain⟨q,rfl,N,E⟩:=(am.out.below hB.out) (by rw[aB,iR];omega);have k:=E i (by rw[aB,iR];exact av);rw[dV]at k;rw[b.out]at g⊢;generalize fromL S P (eX S P first par) i=out at*;generalize(eX S P first par).getD i 0=x at*;have F:(q.add i).block<wr.heap.size:=by rw[aV];exact N
   have G:Hid (∀W,af wr W->(W.cell? ⟨w.heap.size,0,none⟩=some (.int .i64 C)/\W.cell? ⟨w.heap.size,1,none⟩=some (.int .i64 S)/\W.cell? ⟨w.heap.size,2,none⟩=some (.int .i64 P))/\W.cell? (q.add i)=some (.int .i64 (x:Int))):=by
    show∀W,_;intro W c;obtain⟨Y,Z,ac,-⟩:=o.out _ (ab (ab z.out hB.out) c);exact⟨⟨Y,Z,ac⟩,(c.cell F).trans k⟩
   have a2:IntKind.i64.wrap (((i+1:Nat):Int)+1)=((i+2:Nat):Int):=by rw[aJ _ oO oO];omega
   have a8:IntKind.i64.wrap ((i:Int)+1+1)=((i+2:Nat):Int):=by rw[aJ _ oO oO];omega
   clear E N k F;go_wp2;refine yO (af wr) [1,2,3,4,5,6,7,8,9,12,13,14,0,10,11,15,0,16] (ak (Below.refl _ _)) ?_
   repeat refine zO G.out ?_
   refine zZ ?_;refine(Ck C S P x _ a.out.vf j.out).mono ?_;rintro e w2 ⟨rfl,H⟩;have m:Hid (af wr w2):=ab (ak (Below.refl _ _)) H;have a3:Hid (bE S P 0 x<S):=iM a.out.vf oO j.out;clear H;generalize bE S P 0 x=y at*;refine⟨_,rfl,m.out,jO ?_⟩;refine' zQ (v:= .slice (some ⟨w2.heap.size,0,none⟩) 2 2) (w':=w2.alloc (.cells #[.int .i64 y,.int .i64 1] 3)) rfl (by go_simp) (ae m.out _) ?_;have J:Hid (af wr (w2.alloc (.cells #[.int .i64 (y:Int),.int .i64 1] 3))):=ae m.out _;have a4:Hid (RD (w2.alloc (.cells #[.int .i64 (y:Int),.int .i64 1] 3)) (some ⟨w2.heap.size,0,none⟩) (zl [y,1])):=RD.lit w2 [y,1] 3 _ rfl;have a5:Hid (∀W,af wr W->RD W (some ⟨w2.heap.size,0,none⟩) (zl [y,1])->Calls Tryz.prog 170 #[ba C S P,.slice p (i+1) A,.slice (some ⟨w2.heap.size,0,none⟩) 2 2,.int .i64 ((i:Int)+2)] W λe w'=>∃v,e= .returned v/\bh w' v (zl (fromL S P (eX S P first par) (i+1)))/\Below W.heap.size W w'):=by
    show∀W,_;intro W c a6;have:=Aw C S P (i+2) out [y,1] p (some ⟨w2.heap.size,0,none⟩) (i+1) 2 A 2 W a.out.vf D.out (Er a.out.vf a3.out oO) b.out.symm rfl oO oO oO oO oO oO (a0.out.below c) a6;rw[show((i+2:Nat):Int)=(i:Int)+2 from by omega,show min (i+2) (i+1+2-1)=i+1+1 from by omega,b.out,a1.out]at this;exact this.mono λe w' ⟨v,n,d,_⟩=>⟨v,n,d⟩
   clear a2 a8;refine zZ ?_;refine(a5.out _ J.out a4.out).mono ?_;rintro e ad ⟨v4,rfl,K,L⟩;have a7:=Lib.hid K;have M:Hid (af wr ad):=ab J.out L;clear K L;refine⟨_,rfl,M.out,jO ?_⟩
   repeat refine zO G.out ?_
   refine ag ?_;go_wp2;exact⟨⟨i+1,by omega,by go_num,a7,ab hB.out M.out⟩,by simp[intOf];omega⟩
  ·obtain rfl:i=par:=oO;go_wp2;go_ret;exact⟨_,rfl,g.out,cN (ab z.out hB.out)⟩
def jB (s p par:Nat) (g R:List Nat) (q k:Nat):List Nat:=(List.range par).map λj=>if j<k then bE s p (if j+1<par then R.getD (j+1) 0 else 0) (aM s p q (g.getD (par-1-j) 0))else R.getD j 0
theorem kK (s p par:Nat) (g R:List Nat) (q k:Nat):(jB s p par g R q k).length=par:=by unfold jB;simp
theorem Hq (s p par:Nat) (g R:List Nat) (q:Nat) (b:R.length=par):jB s p par g R q 0=R:=by
 refine iH (by rw[kK,b]) λj a=>?_;rw[kK]at a;unfold jB;rw[bY _ _ _ a,if_neg oO]
theorem J0 (s p par:Nat) (g R:List Nat) (q k j:Nat) (a:j<par) (b:k<=j):(jB s p par g R q k).getD j 0=R.getD j 0:=by
 unfold jB;rw[bY _ _ _ a,if_neg oO]
theorem Hz (s p par:Nat) (g R:List Nat) (q k:Nat) (b:k<par):
 (jB s p par g R q k).set k (bE s p (if k+1<par then R.getD (k+1) 0 else 0) (aM s p q (g.getD (par-1-k) 0)))=jB s p par g R q (k+1):=by
 unfold jB;rw[fC _ _ _ _ b];apply List.map_congr_left;intro j d;by_cases e:j=k
 ·subst e;rw[if_pos rfl,if_pos (show j<j+1 by omega)]
 ·rw[if_neg e];by_cases a:j<k
  ·rw[if_pos a,if_pos (show j<k+1 by omega)]
  ·rw[if_neg a,if_neg (show¬j<k+1 by omega)]
def iU (s p par:Nat) (g data:List Nat):Nat->List Nat
 |0=>List.replicate par 0
 |i+1=>jB s p par g (iU s p par g data i) (bW s p (data.getD i 0) ((iU s p par g data i).getD 0 0)) par
theorem pE (s p par:Nat) (g data:List Nat) (i:Nat):(iU s p par g data i).length=par:=by
 cases i with
 |zero=>show(List.replicate par 0).length=par;simp
 |succ i=>exact kK _ _ _ _ _ _ _
noncomputable def jx (s p par first:Nat) (data:List Nat):List Nat:=data++(List.range par).map λk=>bE s p 0 ((iU s p par (cP s p first par) data data.length).getD k 0)
section
open Fl
variable {c s p : Nat} (h : VF c s p)
include h
theorem E1 {par:Nat} {g R:List Nat} (a:aA s R) (q k:Nat):aA s (jB s p par g R q k):=lW h λj _=>by
 have:=h.aT;split
 ·exact iM h (by split<;>first|exact a _|omega) (cd h _ _)
 ·exact a _
theorem o6 {par:Nat} (g data:List Nat) (i:Nat):aA s (iU s p par g data i):=by
 induction i with
 |zero=>
  intro j;have:=h.aT;show(List.replicate par 0).getD j 0<s;simp[List.getD,List.getElem?_replicate];split<;>simp<;>omega
 |succ i a=>exact E1 h a _ _
theorem KL {par first:Nat} {R:List Nat} (f:aA s R) (x:R.length=par) (u:1<=par) {d:Nat} (m:d<s) {j:Nat} (o:j<par):
 aS h (gU s p (eH s p (first+j)) (jB s p par (cP s p first par) R (bW s p d (R.getD 0 0)) par) par)=aS h (eH s p (first+j))* aS h (gU s p (eH s p (first+j)) R par)+aS h d* aS h (eH s p (first+j))^par:=by
 have n:=iF h (first+j);have hg:=mL h first par
 have l:=zH h first par o
 have hq:bW s p d (R.getD 0 0)<s:=jY h _ _ m (f 0);have t:=E1 h (par:=par) (g:=cP s p first par) f (bW s p d (R.getD 0 0)) par;rw[lf h n t,lf h n f];generalize w:aS h (eH s p (first+j))=r at*;have e1:∀e,e<par->rv par (co h (jB s p par (cP s p first par) R (bW s p d (R.getD 0 0)) par)) e=sh (rv par (co h R)) e-aS h (bW s p d (R.getD 0 0))* co h (cP s p first par) e:=by
  intro e q;unfold rv;rw[if_pos q];show aS h ((jB s p par (cP s p first par) R (bW s p d (R.getD 0 0)) par).getD (par-1-e) 0)=_;unfold jB;rw[bY _ _ _ oO,if_pos oO,kY h (by split<;>first|exact f _|(have:=h.aT;omega)) (cd h _ _),gr h hq (hg _),show par-1-(par-1-e)=e from by omega];congr 1;cases e with
  |zero=>rw[if_neg oO,bX];rfl
  |succ e=>
   rw[if_pos oO];show aS h (R.getD (par-1-(e+1)+1) 0)=if e<par then co h R (par-1-e)else 0
   rw[if_pos oO,show par-1-(e+1)+1=par-1-e from by omega];rfl
 rw[nS e1,vx r (sh (rv par (co h R))) (λe=>aS h (bW s p d (R.getD 0 0))* co h (cP s p first par) e),s8];have e2:cF r (sh (rv par (co h R))) par=r* cF r (rv par (co h R)) par-aS h (R.getD 0 0)* r^par:=by
  have i:=E3 r (rv par (co h R)) par;rw[BZ]at i;have e3:sh (rv par (co h R)) par=aS h (R.getD 0 0):=by
   obtain⟨k,rfl⟩:∃k,par=k+1:=⟨par-1,by omega⟩;show rv (k+1) (co h R) k=_;unfold rv;rw[if_pos oO,show k+1-1-k=0 from by omega];rfl
  rw[e3]at i;rw[<-i,ou]
 have e4:cF r (co h (cP s p first par)) par=0-r^par:=by
  rw[BZ]at l;have e5:co h (cP s p first par) par=1:=by show aS h ((cP s p first par).getD par 0)=1;rw[rR,mP]
  rw[e5,gf]at l;rw[<-l,ou]
 rw[e2,e4,lr h m (f 0)];generalize aS h (R.getD 0 0)=a;generalize aS h d=b;generalize r^par=z;generalize r* cF r (rv par (co h R)) par=v;have e6:(b+a)* (0-z)=-(b* z)+-(a* z):=by rw[gH,dQ,dh,tj,tj]
 rw[e6,dQ,dQ,mX,Ax,Ax];have e7:v+-(a* z)+(b* z+a* z)=v+b* z+(a* z+-(a* z)):=by ac_rfl
 rw[e7,pV,bJ]
theorem F7 {par first:Nat} {data:List Nat} (a:aA s data) (d:1<=par) {j:Nat} (e:j<par):∀i,
 aS h (gU s p (eH s p (first+j)) (iU s p par (cP s p first par) data i) par)=aS h (gU s p (eH s p (first+j)) data i)* aS h (eH s p (first+j))^par
 |0=>by
  have b:=iF h (first+j);rw[lf h b (o6 h _ _ _)];show cF _ _ par=aS h 0* _;rw[bX,fU];refine pH (λi=>?_) par;unfold rv;split
  ·show aS h ((List.replicate par 0).getD (par-1-i) 0)=0;have:(List.replicate par 0).getD (par-1-i) 0=0:=by simp[List.getD,List.getElem?_replicate];split<;>rfl
   rw[this,bX]
  ·rfl
 |i+1=>by
  have b:=iF h (first+j);show aS h (gU s p _ (jB s p par (cP s p first par) (iU s p par (cP s p first par) data i) _ par) par)=aS h (bW s p (aM s p (gU s p (eH s p (first+j)) data i) (eH s p (first+j))) (data.getD i 0))* _;rw[KL h (o6 h _ _ _) (pE _ _ _ _ _ _) d (a i) e,F7 a d e i,lr h (cd h _ _) (a i),gr h (qT h a i) b,gH];congr 1
  ac_rfl
omit h in
theorem wu {x:Nat} {w v:List Nat}:∀k,(∀i,i<k->w.getD i 0=v.getD i 0)->gU s p x w k=gU s p x v k
 |0,_=>rfl
 |k+1,e=>by
  show bW s p (aM s p (gU s p x w k) x) (w.getD k 0)=bW s p (aM s p (gU s p x v k) x) (v.getD k 0);rw[wu k λi hi=>e i oO,e k oO]
omit h in
theorem nv (par first:Nat) (data:List Nat):(jx s p par first data).length=data.length+par:=by unfold jx;simp
omit h in
theorem qQ (par first:Nat) (data:List Nat) {i:Nat} (hi:i<data.length):(jx s p par first data).getD i 0=data.getD i 0:=by
 unfold jx;simp[List.getD,List.getElem?_append_left hi]
omit h in
theorem tO (par first:Nat) (data:List Nat) {t:Nat} (ht:t<par):(jx s p par first data).getD (data.length+t) 0=bE s p 0 ((iU s p par (cP s p first par) data data.length).getD t 0):=by
 unfold jx;simp[List.getD,List.getElem?_append_right,ht]
theorem yE {par first:Nat} {data:List Nat} (b:aA s data):aA s (jx s p par first data):=λi=>by
 have e:=h.aT;rcases Nat.lt_or_ge i data.length with a|a
 ·rw[qQ _ _ _ a];exact b i
 ·rcases Nat.lt_or_ge i (data.length+par)with d|d
  ·rw[show i=data.length+(i-data.length)from by omega,tO _ _ _ oO];exact iM h oO (o6 h _ _ _ _)
  ·rw[j4 (by rw[nv];omega)];omega
theorem IA {par first:Nat} {data:List Nat} (b:aA s data) (l:1<=par):mC s p par first data (jx s p par first data):=by
 refine⟨yE h b,nv _ _ _,λi d=>qQ _ _ _ d,λj m=>?_⟩;have k:=iF h (first+j);have e:=yE h (par:=par) (first:=first) b;rw[<-sw h (CZ h e j)];unfold ze;rw[nv];have f:=o6 h (par:=par) (cP s p first par) data data.length;have key:∀a,a<=par->aS h (gU s p (eH s p (first+j)) (jx s p par first data) (data.length+a))=aS h (gU s p (eH s p (first+j)) data data.length)* aS h (eH s p (first+j))^a-aS h (gU s p (eH s p (first+j)) (iU s p par (cP s p first par) data data.length) a):=by
  intro a
  induction a with
  |zero=>
   intro _;rw[Nat.add_zero,wu (v:=data) data.length (λi d=>qQ _ _ _ d),ig,jU];show _=_-aS h 0;rw[bX,ke]
  |succ a g=>
   intro n;have g:=g oO;show aS h (bW s p (aM s p (gU s p _ (jx s p par first data) (data.length+a)) _) ((jx s p par first data).getD (data.length+a) 0))=_-aS h (bW s p (aM s p (gU s p _ (iU s p par (cP s p first par) data data.length) a) _) ((iU s p par (cP s p first par) data data.length).getD a 0));rw[lr h (cd h _ _) (e _),gr h (qT h e _) k,g,tO _ _ _ oO,kY h (by have:=h.aT;omega) (f a),lr h (cd h _ _) (f a),gr h (qT h f a) k,bX,FF,dz,zv,dQ,dQ,mX]
   ac_rfl
 rw[key par (Nat.le_refl _),F7 h b l m,ew]
theorem IM {par first:Nat} {data:List Nat} (a:aA s data) (b:1<=par) (hn:par<=s-1):jx s p par first data=eF s p par first data:=mC.uniq h hn (IA h a b) (rP h a)
end
theorem yK {f:Array Oper} {S:World->Prop} {K:Act->World->Prop} {r:List (Bool×Nat×Oper)} {k:Nat} {d:Oper} {a:Act} {W:World} {base:Nat} {A B:Option Addr} {n c m g:Nat} {xs ys:List Int} (o:W.ownsRow base 3 1 (.slice A n c) n (xs.map (Value.int .i64))) (hb:base<=W.heap.size)
 (x:Region.wanted d (yielded f a.tmps)=true) (s y:Operand) (p:d.op= .call {callee:= .builtin .append,args:=#[s,y],argTypes:=#[64,64]}) (hs:a.eval s= .slice A n c) (q:a.eval y= .slice B m g) (t:m=ys.length) (J:1<=m) (i:RD W B ys) (hl:n+m<=100000000)
 (u:∀A' c' b,b.ownsRow base 3 1 (.slice A' (n+m) c') (n+m) ((xs++ys).map (Value.int .i64))->W.grownBy b (Value.slice A n c).ownBlock->((Value.slice A' (n+m) c').ownBlock=(Value.slice A n c).ownBlock\/(Value.slice A' (n+m) c').ownBlock=some W.heap.size)->S b/\bG Tryz.prog f S K r (a.put d.dst (.slice A' (n+m) c')) b):
 bG Tryz.prog f S K ((true,k,d)::r) a W:=by
 obtain⟨v,w,z,C,D⟩:=info_parts dd
 obtain⟨G,b,F,l,hg,E⟩:=sa (P:=Tryz.prog) W base 64 d.type 3 v _ Tryz.underlying64 w z C D rfl _ n xs o B m g ys t i (λhB=>by
  obtain⟨H,e,-⟩:=i oO
  rw[hB]at e;cases e) oO hb
 obtain⟨A',c',rfl⟩:=bT l;have j:=u A' c' b l hg E;refine ie x ?_ j.1 j.2;unfold execOp;simp only[p,resolve,invoke,builtin,Sem.run_bind,Sem.run_pure,Result.andThen_ok,List.map_toArray,List.map_cons,List.map_nil,hs,q,F]
theorem sE (C S P par first:Nat) (data:List Nat) (m:Nat) (A:Option Addr) (bq:Nat) (w:World) (h:eo C S P par first) (bs:m=data.length) (hl:aA S data) (bt:1<=m) (ck:m+par<=S-1) (a7:RD w A (zl data)):
 Calls Tryz.prog 105 #[cQ C S P par first,.slice A m bq] w (iB w (zl (eF S P par first data),0)):=by
 obtain⟨eh,ej,ex,ey,ez⟩:=info_parts dd;have c:=Lib.hid h;obtain⟨s3,ek⟩:=h.s3;have e0:=h.p1;have Q:=jW w C S P par first
 have cg:Hid (Below w.heap.size w (w.alloc (gW C S P par first))):=(Below.refl _ _).alloc (Nat.le_refl _) _;obtain⟨am,el⟩:∃am,S=am+1:=⟨S-1,by omega⟩;have e1:(S:Int)-1=(am:Int):=oO;obtain⟨ap,em⟩:∃ap,ap=am-par:=⟨_,rfl⟩;have e2:(am:Int)-(par:Int)=(ap:Int):=oO;have e9:m<=ap:=oO;have gL:m<=4095:=oO;have gN:0<par:=oO;have g4:(0:Int)<(par:Int):=oO;have gX:par<=4095:=oO;obtain⟨T,rfl,bo,be⟩:=a7 (by rw[aB];omega);have en:=Lib.hid a7;have co:=Lib.hid hl;have a8:=Lib.hid bs;have fb:Hid (par<=S-1):=by show _<=_;omega
 have fd:Hid (∀W,af w W->Calls Tryz.prog 122 #[ba C S P,.slice (some T) m bq] W λe w'=>e= .returned (.bool true)/\Below W.heap.size W w'):=λW b=>Fo C S P data m (some T) bq W bs hl oO ek (a7.below b);have fn:=run_make_row' (P:=Tryz.prog) 64 3 (.int .i64 0) 8 Tryz.underlying64 dd rfl .i64 .i64 par oO oO;have fo:¬(ap<m):=oO;obtain⟨G,H,J,K,L⟩:=Q.out _ (Below.refl _ _);clear h hl a7 bo be bs ck em el;go_enter Tryz.func105,Tryz.ntmps105
 go_wp2_with(first
  |(go_at_call 121;refine(Dk C S P par first _ c.out).mono ?_;rintro e w1 ⟨rfl,N⟩;have b8:=Lib.hid N;clear N G H J K L;obtain⟨G,H,J,K,L⟩:=Q.out _ b8.out)
  |(go_at_call 122;refine(fd.out _ (ab cg.out b8.out)).mono ?_;rintro e w2 ⟨rfl,cx⟩;have c2:=Lib.hid (ab b8.out cx);clear cx G H J K L;obtain⟨G,H,J,K,L⟩:=Q.out _ c2.out)
  |(go_at_call 145;refine(vP C S P par first _ c.out).mono ?_;rintro e f ⟨gs,rfl,c3,c4⟩;have c5:=Lib.hid c3;have Y:=Lib.hid (ab c2.out c4);clear c4 c3 G H J K L;obtain⟨G,H,J,K,L⟩:=Q.out _ Y.out;have c6:Hid (RD f (some T) (zl data)):=en.out.below (ab cg.out Y.out))
  |(at_builtin;refine eA rfl _ _ _ rfl f.heap.size 3 eh _ Tryz.underlying64 ej ex ey ez rfl (.slice none 0 0) 0 [] rfl (World.ownsRow_nil _ _ _ _) (some T) m _ (zl data) rfl (by rw[aB];exact a8.out) c6.out oO (Nat.le_refl _) ?_;intro v4 a X hg bf;rw[Nat.zero_add,List.nil_append]at X;have c7:=Lib.hid X;obtain⟨bv,bx,rfl⟩:=bT X;have Z:Hid (af f a):=(Below.refl _ _).grown hg (Nat.le_refl _) (λq hq=>by cases hq);clear X hg bf G H J K L;obtain⟨G,H,J,K,L⟩:=Q.out _ (ab Y.out Z.out)))
 clear G H J K L fn e1 e2 fo e9;have a1:=eP (s:=S) (p:=P) first par
 obtain⟨eq,gt,rfl,-,-,c8⟩:=bh.nat c5.out;rw[a1];have fr:=Lib.hid c8;clear c8 c5;have a1:Hid ((cP S P first par).length=par+1):=a1;have fv:Hid (aA S (cP S P first par)):=mL c.out.vf first par
 have ge:Hid (data++(List.range par).map (λk=>bE S P 0 ((iU S P par (cP S P first par) data m).getD k 0))=eF S P par first data):=by
  have:=IM c.out.vf (first:=first) co.out e0 fb.out;unfold jx at this;rw[<-a8.out]at this;exact this
 have bi:Hid (∀W,af a W->W.cell? ⟨w.heap.size,0,none⟩=some (.int .i64 C)/\W.cell? ⟨w.heap.size,1,none⟩=some (.int .i64 S)/\W.cell? ⟨w.heap.size,2,none⟩=some (.int .i64 P)/\W.cell? ⟨w.heap.size,3,none⟩=some (.int .i64 par)):=by
  show∀W,_;intro W b;obtain⟨n,o,t,M,-⟩:=Q.out _ (ab (ab Y.out Z.out) b);exact⟨n,o,t,M⟩
 have c9:Hid (af a (a.alloc (.cells (madeCells #[.int .i64 0] par) 3))/\bV (a.alloc (.cells (madeCells #[.int .i64 0] par) 3)) a.heap.size (iU S P par (cP S P first par) data 0)):=⟨ar _ _,bV.made _ _ _ _ rfl⟩;have ea:Hid (∀W,af a W->RD W eq (zl (cP S P first par))):=λW b=>fr.out.below (ab Z.out b);have dl:Hid (∀W,af a W->RD W (some T) (zl data)):=λW b=>c6.out.below (ab Z.out b);generalize cP S P first par=g at*
 go_loopw [9] (λb1 wr=>∃i:Nat,i<=m/\b1= .int .i64 i/\Hid (af a wr/\bV wr a.heap.size (iU S P par g data i))) (λb1 _=>m-(intOf b1).toNat)
 case atStart=>exact⟨0,Nat.zero_le _,rfl,c9⟩
 case round=>
  obtain⟨i,gY,rfl,B⟩:=hrel;by_cases fx:i<m
  ·obtain⟨g0,e,bo,be⟩:=dl.out wr B.out.1 (by rw[aB,<-a8.out];omega);cases e;have b2:=be i (by rw[aB,<-a8.out];exact fx);rw[dV]at b2;have cp:Hid (data.getD i 0<S):=co.out i;have a9:Hid (aA S (iU S P par g data i)):=o6 c.out.vf _ _ _;have a2:Hid ((iU S P par g data i).length=par):=pE _ _ _ _ _ _;have f0:Hid (iU S P par g data (i+1)=jB S P par g (iU S P par g data i) (bW S P (data.getD i 0) ((iU S P par g data i).getD 0 0)) par):=rfl;have cq:=(B.out.2.2 0 (by rw[a2.out];omega)).1;have dm:Hid ((iU S P par g data i).getD 0 0<S):=a9.out 0;have dn:(T.add i).block<wr.heap.size:=by rw[aV];exact bo
   have ac:=B.out.2.1;generalize data.getD i 0=d at*;generalize iU S P par g data i=R at*;generalize f1:R.getD 0 0=bb at*;have ds:Hid (∀W,af wr W->(W.cell? ⟨w.heap.size,0,none⟩=some (.int .i64 C)/\W.cell? ⟨w.heap.size,1,none⟩=some (.int .i64 S)/\W.cell? ⟨w.heap.size,2,none⟩=some (.int .i64 P))/\W.cell? (T.add i)=some (.int .i64 (d:Int))/\W.cell? ⟨a.heap.size,0,none⟩=some (.int .i64 (bb:Int))):=by
    show∀W,_;intro W b;obtain⟨n,o,t,-⟩:=bi.out _ (ab B.out.1 b);exact⟨⟨n,o,t⟩,(b.cell dn).trans b2,(b.cell ac).trans cq⟩
   clear be bo dn b2 cq f1 ac;go_wp2;refine yO (af wr) [1,2,3,4,5,6,7,8,9,0,10,0,11] (ak (Below.refl _ _)) ?_
   repeat refine zO ds.out ?_
   refine zZ ?_;refine(I0 C S P d bb _ c.out.vf cp.out dm.out).mono ?_;rintro e b3 ⟨rfl,dx⟩;have b9:Hid (af wr b3):=ab (ak (Below.refl _ _)) dx;have cr:Hid (bW S P d bb<S):=jY c.out.vf _ _ cp.out dm.out;clear dx;generalize bW S P d bb=q at*;refine⟨_,rfl,b9.out,jO ?_⟩
   repeat refine zO ds.out ?_
   refine ag ?_;have f2:Hid (af a b3/\bV b3 a.heap.size R):=⟨ab B.out.1 b9.out,B.out.2.below b9.out⟩;have f3:Hid (jB S P par g R q 0=R):=Hq _ _ _ _ _ _ a2.out;go_wp2;go_loopw [11] (λU wr=>∃k:Nat,k<=par/\U= .int .i64 k/\Hid (af a wr/\bV wr a.heap.size (jB S P par g R q k))) (λU _=>par-(intOf U).toNat)
   case atStart=>exact⟨0,Nat.zero_le _,rfl,by rw[f3.out];exact f2⟩
   case round=>
    obtain⟨k,f4,rfl,D⟩:=hrel;obtain⟨n,o,t,M⟩:=bi.out _ D.out.1;by_cases a6:k<par
    ·obtain⟨cs,rfl,ec,dy⟩:=ea.out wr D.out.1 (by rw[aB,a1.out];omega);obtain⟨r,cv⟩:∃r,r=par-1-k:=⟨_,rfl⟩;have ca:=dy r (by rw[aB,a1.out];omega);rw[dV]at ca;have d0:Hid (g.getD r 0<S):=fv.out r;have cb:IntKind.i64.wrap ((par:Int)-1)=((par-1:Nat):Int):=by rw[aJ _ oO oO];omega
     obtain⟨pm,ed⟩:∃pm,pm=par-1:=⟨_,rfl⟩;rw[<-ed]at cb;have d1:IntKind.i64.wrap ((pm:Int)-(k:Int))=(r:Int):=by rw[aJ _ oO oO];omega
     have gg:IntKind.i64.wrap ((par:Int)-1-(k:Int))=(r:Int):=by rw[aJ _ oO oO];omega
     have gi:(par:Int)-1-(k:Int)=(r:Int):=oO;have g1:r<par+1:=oO;have g2:(r:Int)<(par:Int)+1:=oO;have g3:0<par+1:=oO;obtain⟨V,a3⟩:∃V,V=if k+1<par then R.getD (k+1) 0 else 0:=⟨_,rfl⟩
     have d2:Hid (V<S):=by show _<_;rw[a3];split<;>first|exact a9.out _|omega
     have d3:Hid ((jB S P par g R q k).set k (bE S P V (aM S P q (g.getD r 0)))=jB S P par g R q (k+1)):=by
      show _=_;rw[a3,cv];exact Hz S P par g R q k a6
     have ce:=D.out.2.2 k (by rw[kK];exact a6);have ac:=D.out.2.1;have d4:(cs.add r).block<wr.heap.size:=by rw[aV];exact ec
     have ci:k+1<par->wr.cell? ⟨a.heap.size,k+1,none⟩=some (.int .i64 (V:Int)):=λav=>by
      have bd:=(D.out.2.2 (k+1) (by rw[kK];exact av)).1;rw[J0 _ _ _ _ _ _ _ _ av oO]at bd;rw[a3,if_pos av];exact bd
     have ch:¬(k+1<par)->V=0:=λav=>by rw[a3,if_neg av]
     clear a3 ed cv gg gi;generalize g.getD r 0=y at*;generalize(jB S P par g R q k).getD k 0=u at*;have E:Hid (∀W,af wr W->(W.cell? ⟨w.heap.size,0,none⟩=some (.int .i64 C)/\W.cell? ⟨w.heap.size,1,none⟩=some (.int .i64 S)/\W.cell? ⟨w.heap.size,2,none⟩=some (.int .i64 P)/\W.cell? ⟨w.heap.size,3,none⟩=some (.int .i64 par))/\W.cell? (cs.add r)=some (.int .i64 (y:Int))/\W.cell? ⟨a.heap.size,k,none⟩=some (.int .i64 (u:Int))/\W.frozen? ⟨a.heap.size,k,none⟩=false):=by
      show∀W,_;intro W b;exact⟨bi.out _ (ab D.out.1 b),(b.cell d4).trans ca,(b.cell ac).trans ce.1,(b.frozen ac).trans ce.2⟩
     clear dy ec ca d4 ce ac;by_cases d5:k+1<par
     ·have f5:=ci d5;have go:(k:Int)+1<(par:Int):=oO;clear ci ch;go_wp2;clear n o t M f5;refine du (S:=af wr) 19 oK oK (ak (Below.refl _ _)) ?_;simp only[List.take_succ_cons,List.take_zero,List.drop_succ_cons,List.drop_zero]
      repeat refine kO E.out ?_
      refine kX (λW b=>uO C S P q y W c.out.vf cr.out d0.out) ?_
      repeat refine kO E.out ?_
      refine kX (λW b=>yS C S P V (aM S P q y) W c.out.vf d2.out (cd c.out.vf _ _)) ?_
      repeat refine kO E.out ?_
      refine eO ?_;intro z N;have l:=Lib.hid N;clear N;obtain⟨-,-,f6,f7⟩:=E.out z l.out;go_wp2;clear cb d1;exact⟨⟨k+1,by omega,by go_num,by rw[<-d3.out];exact⟨(ab D.out.1 l.out).setCell (Nat.le_refl _) _,(D.out.2.below l.out).set _ _⟩⟩,by simp[intOf];omega⟩
     ·have er:=ch d5;subst er;have go:¬((k:Int)+1<(par:Int)):=oO;clear ci ch;go_wp2;clear n o t M;refine du (S:=af wr) 19 oK oK (ak (Below.refl _ _)) ?_;simp only[List.take_succ_cons,List.take_zero,List.drop_succ_cons,List.drop_zero]
      repeat refine kO E.out ?_
      refine kX (λW b=>uO C S P q y W c.out.vf cr.out d0.out) ?_
      repeat refine kO E.out ?_
      refine kX (λW b=>yS C S P 0 (aM S P q y) W c.out.vf d2.out (cd c.out.vf _ _)) ?_
      repeat refine kO E.out ?_
      refine eO ?_;intro z N;have l:=Lib.hid N;clear N;obtain⟨-,-,f6,f7⟩:=E.out z l.out;go_wp2;clear cb d1;exact⟨⟨k+1,by omega,by go_num,by rw[<-d3.out];exact⟨(ab D.out.1 l.out).setCell (Nat.le_refl _) _,(D.out.2.below l.out).set _ _⟩⟩,by simp[intOf];omega⟩
    ·obtain rfl:k=par:=oO;go_wp2;exact⟨⟨i+1,by omega,by go_num,by rw[f0.out];exact D⟩,by simp[intOf];omega⟩
  ·obtain rfl:i=m:=oO;have a2:Hid ((iU S P par g data i).length=par):=pE _ _ _ _ _ _;have a9:Hid (aA S (iU S P par g data i)):=o6 c.out.vf _ _ _;generalize iU S P par g data i=R at*
   have O:Hid (ai wr a.heap.size (R.map vN)):=⟨B.out.2.1,λj b4=>by
    rw[List.length_map]at b4;rw[(B.out.2.2 j b4).1]
    simp[List.getD,b4]⟩
   have ad:Hid (wr.ownsRow f.heap.size 3 1 (.slice bv i bx) (i+0) ((zl (data++(List.range 0).map λk=>bE S P 0 (R.getD k 0))).map (Value.int .i64))):=by
    show World.ownsRow _ _ _ _ _ _ _;have:=ah c7.out B.out.1;simpa using this
   have a4:Hid (∀q,(Value.slice bv i bx).ownBlock=some q->q≠a.heap.size):=by
    show∀q,_;intro q hq;have:=(c7.out.lt q hq).2;omega
   have F:Hid (af f wr):=ab Z.out B.out.1;have ef:Hid (∀W,af f W->W.cell? ⟨w.heap.size,0,none⟩=some (.int .i64 C)/\W.cell? ⟨w.heap.size,1,none⟩=some (.int .i64 S)/\W.cell? ⟨w.heap.size,2,none⟩=some (.int .i64 P)/\W.cell? ⟨w.heap.size,3,none⟩=some (.int .i64 par)):=by
    show∀W,_;intro W b;obtain⟨n,o,t,M,-⟩:=Q.out _ (ab Y.out b);exact⟨n,o,t,M⟩
   have g5:Hid (f.heap.size<=a.heap.size):=Z.out.size;clear B c9 ea dl bi;go_wp2;go_loopw [7,13] (λes U wr=>∃(k:Nat) (a0:Option Addr) (a5:Nat),k<=par/\U= .int .i64 k/\es= .slice a0 (i+k) a5/\Hid (af f wr)/\Hid (ai wr a.heap.size (R.map vN))/\Hid (wr.ownsRow f.heap.size 3 1 (.slice a0 (i+k) a5) (i+k) ((zl (data++(List.range k).map λk=>bE S P 0 (R.getD k 0))).map (Value.int .i64)))/\Hid (∀q,(Value.slice a0 (i+k) a5).ownBlock=some q->q≠a.heap.size)) (λ_ U _=>par-(intOf U).toNat)
   case atStart=>exact⟨0,bv,bx,Nat.zero_le _,rfl,rfl,F,O,ad,a4⟩
   case round=>
    clear F O ad a4;obtain⟨k,a0,a5,f4,rfl,rfl,F,O,ad,a4⟩:=hrel;obtain⟨n,o,t,M⟩:=ef.out _ F.out;by_cases a6:k<par
    ·have et:Hid (R.getD k 0<S):=a9.out k;have f8:Hid (zl (data++(List.range k).map λk=>bE S P 0 (R.getD k 0))++zl [bE S P 0 (R.getD k 0)]=zl (data++(List.range (k+1)).map λk=>bE S P 0 (R.getD k 0))):=by
      show _=_;rw[List.range_succ,List.map_append,<-List.append_assoc];unfold zl;rw[<-List.map_append];rfl
     have E:Hid (∀W,(af f W/\ai W a.heap.size (R.map vN))->(W.cell? ⟨w.heap.size,0,none⟩=some (.int .i64 C)/\W.cell? ⟨w.heap.size,1,none⟩=some (.int .i64 S)/\W.cell? ⟨w.heap.size,2,none⟩=some (.int .i64 P))/\W.cell? ⟨a.heap.size,k,none⟩=some (.int .i64 ((R.getD k 0:Nat):Int))):=by
      show∀W,_;rintro W ⟨b,eu⟩;obtain⟨n,o,t,-⟩:=ef.out _ b;refine⟨⟨n,o,t⟩,?_⟩;rw[eu.2 k (by rw[List.length_map,a2.out];exact a6)];have f9:k<R.length:=by rw[a2.out];exact a6
      simp[List.getD,f9]
     generalize ga:zl (data++(List.range k).map λk=>bE S P 0 (R.getD k 0))=gx at*;generalize R.getD k 0=x at*;clear ga;have d6:Hid (f.heap.size<=wr.heap.size):=F.out.size;go_wp2;clear n o t M;refine yO (λW=>af f W/\ai W a.heap.size (R.map vN)) [1,2,3,4,5,6,7,0,8,9,10,0,11] ⟨F.out.drew,O.out.drew⟩ ?_
     repeat refine zO E.out ?_
     refine zZ ?_;refine(Ck C S P x _ c.out.vf et.out).mono ?_;rintro e z ⟨rfl,d7⟩;have l:Hid (af wr z):=ab (ak (Below.refl _ _)) d7;clear d7;generalize bE S P 0 x=y at*;refine⟨_,rfl,⟨ab F.out l.out,O.out.below l.out⟩,jO ?_⟩;refine' zQ (v:= .slice (some ⟨z.heap.size,0,none⟩) 1 1) (w':=z.alloc (.cells #[.int .i64 y] 3)) rfl (by go_simp) ⟨ae (ab F.out l.out) _,(O.out.below l.out).alloc _⟩ ?_;have al:Hid (af wr (z.alloc (.cells #[.int .i64 (y:Int)] 3))):=ae l.out _;have gb:Hid (RD (z.alloc (.cells #[.int .i64 (y:Int)] 3)) (some ⟨z.heap.size,0,none⟩) (zl [y])):=RD.lit z [y] 3 _ rfl;refine' yK (ys:=zl [y]) (ah ad.out al.out) (Nat.le_trans d6.out al.out.size) rfl _ _ rfl rfl rfl rfl (Nat.le_refl _) gb.out oO ?_;intro b5 b6 b7 X hg bf;have gc:Hid (b7.ownsRow f.heap.size 3 1 (.slice b5 (i+(k+1)) b6) (i+(k+1)) ((zl (data++(List.range (k+1)).map λk=>bE S P 0 (R.getD k 0))).map (Value.int .i64))):=by
      show World.ownsRow _ _ _ _ _ _ _;rw[<-f8.out];exact X
     have d8:Hid (af f b7):=(ab F.out al.out).grown hg (Nat.le_trans d6.out al.out.size) (λq hq=>(ad.out.lt q hq).1);have d9:Hid (ai b7 a.heap.size (R.map vN)):=(O.out.below al.out).grown hg a4.out;have gd:Hid (∀q,(Value.slice b5 (i+(k+1)) b6).ownBlock=some q->q≠a.heap.size):=by
      show∀q,_;intro q hq;rcases bf with e|e
      ·exact a4.out q (e.symm.trans hq)
      ·have bt:=e.symm.trans hq;injection bt with bt;have ck:=O.out.1;have gy:=al.out.size;omega
     clear X hg bf;refine⟨⟨d8.out,d9.out⟩,?_⟩;simp only[yQ,yU,yX,yY]
     repeat refine zO E.out ?_
     refine ag ?_;go_wp2;exact⟨⟨k+1,b5,b6,by omega,by go_num,rfl,d8,d9,gc,gd⟩,by simp[intOf];omega⟩
    ·obtain rfl:k=par:=oO;have gq:Hid (bh wr (.slice a0 (i+k) a5) (zl (eF S P k first data))):=by
      show bh _ _ _;rw[<-ge.out];have bd:=bh.bU ad.out;exact bd
     go_wp2;go_ret2
     exact iB.mk rfl gq.out (ab (ab cg.out Y.out) F.out)
end
end Go.Proofs.YtmnlkganmgcpbaaGreatDoor
