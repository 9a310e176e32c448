import Derived.Test.YtmnlkganmgcpbaaGreatDoorQd13
set_option maxRecDepth 100000
set_option maxHeartbeats 4000000
set_option linter.unusedVariables false
set_option linter.unusedSectionVars false
set_option linter.unusedSimpArgs false
namespace Go.Proofs.YtmnlkganmgcpbaaGreatDoor
section
open Go.RowKit
theorem KW (k:DK) (a b c d:Value) (f:List Nat) (i:Nat) (w:World) (h:DS k w a b c d f) (g:i<k.n):
 Calls Tryz.prog 199 #[.pointer (some ⟨k.db,0,none⟩),.int .i64 i] w λe w'=>e= .returned (.int .i64 ((k.n-1-i:Nat):Int))/\Below w.heap.size w w':=
 (zi k a b c d f i w h g).mono λe w' ⟨j,l⟩=>⟨j,by rw[l];exact Below.refl _ _⟩
theorem s9 {s p par first:Nat} {w:List Nat}:(cV s p par first w).all (·==0)=true↔∀j,j<par->lT s p first w j=0:=by
 unfold cV;rw[List.all_map,List.all_eq_true];constructor
 ·intro h j a;simpa using h j (List.mem_range.2 a)
 ·intro h j a;simpa using h j (List.mem_range.1 a)
theorem Hn (k:DK) (G H J K:Value) (b:List Nat) (w:World) (h:DS k w G H J K b):
 Calls Tryz.prog 165 #[.pointer (some ⟨k.db,0,none⟩)] w λe w'=>e= .returned (.bool ((cV k.S k.P k.par k.first b).all (·==0)))/\Below w.heap.size w w':=by
 have L:=Lib.hid h;have M:=h.ok.vf.le;have z:=h.ok.p1;have Y:=h.ok.p2;have Z:=h.ok.f2;have ab:=h.ok.n2
 have t:Hid (∀W,af w W->(W.cell? ⟨k.db,0,none⟩=some (.int .i64 k.C)/\W.cell? ⟨k.db,1,none⟩=some (.int .i64 k.S)/\W.cell? ⟨k.db,2,none⟩=some (.slice (some ⟨k.be,0,none⟩) (k.S-1) (k.S-1))/\W.cell? ⟨k.db,3,none⟩=some (.slice (some ⟨k.bl,0,none⟩) k.S k.S))/\
  (W.cell? ⟨k.db,4,none⟩=some (.int .i64 k.C)/\W.cell? ⟨k.db,5,none⟩=some (.int .i64 k.S)/\W.cell? ⟨k.db,6,none⟩=some (.int .i64 k.P)/\W.cell? ⟨k.db,7,none⟩=some (.int .i64 k.par)/\W.cell? ⟨k.db,8,none⟩=some (.int .i64 k.first))/\
  (W.cell? ⟨k.db,9,none⟩=some (.slice (some ⟨k.wb,0,none⟩) k.n k.cw))):=by
  show∀W,_;intro W N;obtain⟨g,O,⟨P,ad,al⟩,am⟩:=(L.out.below N).cells;exact⟨g,O,P⟩
 have n:Hid (Calls Tryz.prog 197 #[fw k.C k.S k.be k.bl,dH k.C k.S k.P k.par k.first,.slice (some ⟨k.wb,0,none⟩) k.n k.cw] w.drew λe w'=>∃v,e= .returned v/\aB w' v (zl (cV k.S k.P k.par k.first b))/\Below w.drew.heap.size w.drew w'):=
  yC k.C k.S k.P k.be k.bl k.par k.first b _ k.n k.cw w.drew h.ok.vf h.lt h.hw oO z oO oO h.drew.T h.drew.Kn
 have a1:k.par<=4094:=oO;obtain⟨a,o⟩:∃a,a=cV k.S k.P k.par k.first b:=⟨_,rfl⟩;have f:Hid (a.length=k.par):=by show _=_;rw[o];unfold cV;simp
 rw[<-o]at n⊢;clear h z Y Z ab M o;go_enter Tryz.func165,Tryz.ntmps165;go_wp2;refine yO (af w) [1,2,3,4,5,6,7,8,9,10,11,12,15,0,13,0,14] (aj (Below.refl _ _)) ?_
 repeat refine zO t.out ?_
 refine zZ ?_;refine n.out.mono ?_;rintro e Q ⟨v1,rfl,B,C⟩;obtain⟨A,c,rfl,-,-,u⟩:=aB.nat B;rw[f.out];have p:Hid (af w Q):=(aj (Below.refl _ _)).trans C;have S:=Lib.hid u;clear B C u n;refine⟨_,rfl,p.out,jO ?_⟩
 repeat refine zO t.out ?_
 refine ag ?_;go_wp2;go_loop [19] (λl=>∃i:Nat,i<=k.par/\l= .int .i64 i/\Hid (∀j,j<i->a.getD j 0=0)) (λl=>k.par-(intOf l).toNat)
 case atStart=>exact⟨0,Nat.zero_le _,rfl,λj m=>by omega⟩
 case round=>
  obtain⟨i,ap,rfl,y⟩:=hrel;by_cases D:i<k.par
  ·obtain⟨av,rfl,a2,E⟩:=S.out (by rw[aw,f.out];omega);have T:=E i (by rw[aw,f.out];exact D);rw[dh]at T;have s:Hid (a.getD i 0≠0->a.all (·==0)=false):=by
    show _->_;intro e;exact all_false (d:=0) (by rw[f.out];exact D) (by simpa using e)
   have q:Hid (a.getD i 0=0->∀j,j<i+1->a.getD j 0=0):=by
    show _->_;intro e j m;rcases Nat.lt_or_ge j i with g|g
    ·exact y.out j g
    ·obtain rfl:j=i:=oO;exact e
   clear E;generalize a.getD i 0=x at*;by_cases r:x=0
   ·subst r;have ac:=Lib.hid (q.out rfl);clear s q;go_wp2;exact⟨⟨i+1,by omega,by go_num,ac.out⟩,by simp[intOf];omega⟩
   ·have U:=Lib.hid (s.out r);have V:((x:Int)==0)=false:=by rw[beq_eq_false_iff_ne];omega
    have a0:((x:Int)!=0)=true:=by rw[bne,V];rfl
    clear s q r;go_wp2;go_ret;exact⟨by rw[U.out];rfl,p.out⟩
  ·have F:i=k.par:=oO;have X:Hid (a.all (·==0)=true):=all_true (d:=0) λj m=>by
    have:=y.out j (by rw[F,<-f.out];exact m);simpa using this
   subst F;go_wp2;go_ret;exact⟨by rw[X.out];rfl,p.out⟩
section
variable {c s p : Nat} (h : VF c s p)
include h
theorem LA (n:Nat):il n (1:KF h)=aU h (n%c):=by
 obtain⟨hc,f⟩:=h.xQ
 induction n with
 |zero=>rw[Nat.zero_mod,bT];rfl
 |succ n a=>
  show il n (1:KF h)+1=_;rw[a,<-lr h,<-nY h (Nat.lt_of_lt_of_le (Nat.mod_lt _ oO) f) oO];congr 1;rcases h with⟨rfl,rfl,g,_,_⟩|⟨d,i,_,hb,rfl,rfl,_⟩
  ·unfold bQ;rw[if_pos rfl,Nat.mod_add_mod]
  ·have b:p≠0:=by
    intro e;subst e;have:bl 0=0:=by decide
    omega
   unfold bQ;rw[if_neg b];rcases Nat.mod_two_eq_zero_or_one n with e|e
   ·rw[e];show 0^^^1=_;rw[show(n+1)%2=1 from by omega];rfl
   ·rw[e];show 1^^^1=_;rw[show(n+1)%2=0 from by omega];rfl
theorem L0 {a:List Nat} (d:ao s a) (i:Nat):co h (lj s p c a (a.length-1)) i=jW (co h a) i:=by
 obtain⟨hc,e⟩:=h.xQ;unfold lj;rw[sZ];show _=il (i+1) (co h a (i+1));by_cases b:i<a.length-1
 ·rw[if_pos b,gh h (Nat.lt_of_lt_of_le (Nat.mod_lt _ oO) e) (d _),<-LA h,<-D8,eC];rfl
 ·rw[if_neg b,fp h a (i+1) oO,vE]
theorem H9 (a:List Nat) (k:Nat):ao s (lj s p c a k):=gT h λi _=>bN h _ _
theorem Kd {par:Nat} {a q:List Nat} (hs:ao s a) (d:a.length=par) (hq:ao s q):MB h par a q (fI s p a q par a.length 0) (lj s p c q (q.length-1)):=
 ⟨sW h _ _ _ _ _,jw _ _ _ _ _ _ _,λj b=>by rw[An h hs hq b,jt],H9 h _ _,rS _ _ _ _ _,λj=>L0 h hq j⟩
end
theorem Ic {s p:Nat} {w P:List Nat} {f:Nat->Nat} {t:Nat} (n:P.Nodup) (g:t<P.length) (m:P.getD t 0<w.length):
 (jc s p w (P.take t) f).set (P.getD t 0) (bQ s p ((jc s p w (P.take t) f).getD (P.getD t 0) 0) (f (P.getD t 0)))=jc s p w (P.take (t+1)) f:=by
 have i:P.getD t 0=P[t]:=by simp[List.getD,g]
 have o:P.getD t 0∉P.take t:=by
  rw[i];intro a;have k:=n;rw[<-List.take_append_drop t P,List.nodup_append]at k;exact k.2.2 _ a P[t] (by rw[List.drop_eq_getElem_cons g];exact List.mem_cons_self) rfl
 rw[lH m,if_neg o];refine cZ (by rw[List.length_set,fl,fl]) λj b=>?_;rw[List.length_set,fl]at b;rw[lH b];have e1:∀x,x∈P.take (t+1)↔x∈P.take t\/x=P.getD t 0:=λx=>by
  rw[List.take_add_one,List.mem_append];have:P[t]?=some (P.getD t 0):=by rw[i];exact List.getElem?_eq_getElem g
  rw[this];simp
 have q:∀(l:List Nat) (x v j:Nat),j<l.length->(l.set x v).getD j 0=if j=x then v else l.getD j 0:=λl x v j b=>by
  by_cases e:j=x
  ·subst e;rw[if_pos rfl];simp[List.getD,b]
  ·rw[if_neg e];simp[List.getD,List.getElem?_set_ne (Ne.symm e)]
 rw[q _ _ _ _ (by rw[fl];exact b),lH b];by_cases d:j=P.getD t 0
 ·rw[if_pos d,if_pos ((e1 _).2 (.inr d)),<-d]
 ·rw[if_neg d];by_cases a:j∈P.take t
  ·rw[if_pos a,if_pos ((e1 _).2 (.inl a))]
  ·rw[if_neg a,if_neg (λh=>(e1 _).1 h|>.elim a d)]
theorem Ga (s p:Nat) (w:List Nat) (f:Nat->Nat):jc s p w [] f=w:=by
 refine cZ (fl _ _ _ _ _) λj a=>?_;rw[fl]at a;rw[lH a,if_neg oS]
theorem bJ {a:Act} {b:Oper} {W:World} {x q:Operand} (d:b.op= .store 3 q x) (p:Addr) (v:Int) (hq:a.eval q= .pointer (some p)) (e:a.eval x= .int .i64 v) {u:Value} (hc:W.cell? p=some u) (f:W.frozen? p=false):
 (execOp a.eval b).run Tryz.prog W= .ok .skip (W.setCell p (.int .i64 v)):=by
 unfold execOp;simp only[d,hq,e,Instr.storeAt,Instr.sureAddr,Sem.run_bind,Sem.run_pure,Result.andThen_ok];go_simp
def Hz (k:DK) (d e f g:Value) (j P ev sl:List Nat) (w':World) (b:Bool):Prop:=
 b=decide (∀i,i∈P->jT k.S k.P k.first k.n sl i≠0)/\∃a,DS k w' d e f g a/\(b=true->a=jc k.S k.P j P (ij k.S k.P k.first k.n ev sl))
theorem RD.word {k:DK} {wr:World} {A:Option Addr} {xs:List Int} (h:RD wr A xs) (b:∀a,A=some a->a.block≠k.wb) (i:Nat) (u:Value):RD (wr.setCell ⟨k.wb,i,none⟩ u) A xs:=λhn=>by
 obtain⟨a,e,hl,hc⟩:=h hn;refine⟨a,e,by simpa using hl,λj d=>?_⟩
 rw[World.cell?_setCell_other wr _ _ _ (λe2=>b a e (by
  have:=congrArg Addr.block e2;rw[aL]at this
  exact this.symm))]
 exact hc j d
theorem Db (k:DK) (a3 a4 a5 al:Value) (r q P:List Nat) (w:World) (h:DS k w a3 a4 a5 al r) (M:aB w a3 (zl (cV k.S k.P k.par k.first r))) (V:aB w a4 (zl [1])) (N:aB w a5 (zl q)) (a6:aB w al (zl P))
 (fd:∀A n c o,al= .slice A n c->A=some o->o.block≠k.wb) (hq:ao k.S q) (k2:1<=q.length) (k3:q.length<=4096) (ci:P.Nodup) (cb:∀i,i∈P->i<k.n):
 Calls Tryz.prog 164 #[.pointer (some ⟨k.db,0,none⟩)] w λe w'=>∃b,e= .returned (.bool b)/\Hz k a3 a4 a5 al r P (fI k.S k.P (cV k.S k.P k.par k.first r) q k.par k.par 0) (lj k.S k.P k.C q (q.length-1)) w' b:=by
 have d:=h.ok.vf;have jr:=d.le;have k4:=d.aR;have gt:=h.ok.p1;have k5:=h.ok.p2;have ck:=h.ok.f2;have k7:=h.ok.n2;obtain⟨X,bs⟩:∃X,X=cV k.S k.P k.par k.first r:=⟨_,rfl⟩;have av:X.length=k.par:=by rw[bs];unfold cV;simp
 have d2:ao k.S X:=by rw[bs];exact ym d h.lt
 rw[<-bs]at M⊢;obtain⟨ev,bt⟩:∃ev,ev=fI k.S k.P X q k.par k.par 0:=⟨_,rfl⟩;obtain⟨sl,ca⟩:∃sl,sl=lj k.S k.P k.C q (q.length-1):=⟨_,rfl⟩;rw[<-bt,<-ca];have fn:=Lib.hid av;have bv:Hid (ao k.S ev/\ev.length=k.par):=by rw[bt];exact⟨sW d _ _ _ _ _,jw _ _ _ _ _ _ _⟩
 have bx:Hid (ao k.S sl/\sl.length=q.length-1):=by rw[ca];exact⟨H9 d _ _,rS _ _ _ _ _⟩
 generalize d3:Hz k a3 a4 a5 al r P ev sl=j0;have d4:=Lib.hid d3;obtain⟨a7,c1,rfl,f0,f1,da⟩:=aB.nat M;obtain⟨a8,a9,rfl,f2,f3,dd⟩:=aB.nat V;obtain⟨bb,bd,rfl,f4,f5,de⟩:=aB.nat N;obtain⟨be,dl,rfl,f6,f7,dn⟩:=aB.nat a6;obtain⟨m,E⟩:∃m,q.length=m+1:=⟨q.length-1,by omega⟩;obtain⟨F,co⟩:∃F,F=P.length:=⟨_,rfl⟩;have gv:[1].length=1:=rfl;rw[av,E,<-co]at h;have am:=Lib.hid h;have K:=Lib.hid co;have ap:=Lib.hid E;have k9:m<=4095:=oO;have l0:F<=4096:=by
  have:=length_le_of_subset (m:=List.range k.n) ci (λi O=>List.mem_range.2 (cb i O));rw[List.length_range]at this;omega
 have Y:Hid (∀W,af w W->(W.cell? ⟨k.db,0,none⟩=some (.int .i64 k.C)/\W.cell? ⟨k.db,1,none⟩=some (.int .i64 k.S)/\W.cell? ⟨k.db,2,none⟩=some (.slice (some ⟨k.be,0,none⟩) (k.S-1) (k.S-1))/\W.cell? ⟨k.db,3,none⟩=some (.slice (some ⟨k.bl,0,none⟩) k.S k.S))/\
  (W.cell? ⟨k.db,7,none⟩=some (.int .i64 k.par))/\(W.cell? ⟨k.db,12,none⟩=some (.slice a7 k.par c1)/\W.cell? ⟨k.db,13,none⟩=some (.slice a8 1 a9)/\W.cell? ⟨k.db,14,none⟩=some (.slice bb (m+1) bd))):=by
  show∀W,_;intro W a;obtain⟨M,⟨-,-,-,V,-⟩,-,⟨N,a6,f8,-⟩,-⟩:=(am.out.below a).cells;exact⟨M,V,N,a6,f8⟩
 have d5:Hid (Calls Tryz.prog 200 #[fw k.C k.S k.be k.bl,.slice a8 1 a9,.slice bb (m+1) bd,.int .i64 ((m:Int)+1)] w.drew λe w'=>∃v,e= .returned v/\aB w' v (zl q)/\Below w.drew.heap.size w.drew w'):=by
  show Calls _ _ _ _ _;have:=tv k.C k.S k.P k.be k.bl (m+1) [1] q a8 bb 1 (m+1) a9 bd w.drew d (tZ d) hq rfl E.symm oO oO oO oO h.drew.T (dd.below (aj (Below.refl _ _))) (de.below (aj (Below.refl _ _)));rw[show fI k.S k.P [1] q (m+1) [1].length 0=q from LV d hq E]at this;exact this
 have d6:Hid (∀W B C,af w W->RD W B (zl q)->Calls Tryz.prog 200 #[fw k.C k.S k.be k.bl,.slice a7 k.par c1,.slice B (m+1) C,.int .i64 k.par] W λe w'=>∃v,e= .returned v/\(aB w' v (zl ev)/\Below W.heap.size W w')/\xf W v):=by
  show∀W B C,_;intro W B C a hB;have:=tK k.C k.S k.P k.be k.bl k.par X q a7 B k.par (m+1) c1 C W d d2 hq av.symm E.symm oO oO gt oO (h.below a).T (da.below a) hB;rw[av,<-bt]at this;exact this
 have d7:Hid (∀W B C,af w W->RD W B (zl q)->Calls Tryz.prog 203 #[fw k.C k.S k.be k.bl,.slice B (m+1) C] W λe w'=>∃v,e= .returned v/\(aB w' v (zl sl)/\Below W.heap.size W w')/\xf W v):=by
  show∀W B C,_;intro W B C a hB;have:=Es k.C k.S k.P k.be k.bl q B (m+1) C W d hq E.symm oO oO (h.below a).T hB;rw[Nat.add_sub_cancel]at this;rw[ca,E,Nat.add_sub_cancel];exact this
 have gw:IntKind.i64.wrap ((1:Int)+((m:Int)+1))=(m:Int)+2:=by rw[aG _ oO oO];omega
 have gx:IntKind.i64.wrap ((m:Int)+2-1)=(m:Int)+1:=by rw[aG _ oO oO];omega
 have d8:=Lib.hid dn;have d9:Hid (k.wb<w.heap.size):=Nat.lt_of_lt_of_le h.ok.m.2.2.1 h.sz;have io:Hid (∀o,be=some o->o.block≠k.wb):=λo e=>fd be P.length dl o rfl e;have gy:Hid (∀i,i∈P->i<k.n):=cb;have gz:=Lib.hid ci;have gC:Hid (∀i,i∈P->jT k.S k.P k.first k.n sl i=0->decide (∀i,i∈P->jT k.S k.P k.first k.n sl i≠0)=false):=λi O f9=>decide_eq_false (λip=>ip i O f9);have kc:=Lib.hid hq;clear h M V N a6 f0 f1 da f2 f3 dd f4 f5 de f6 f7 dn fd cb ci E co d3 bt ca d2 av bs hq gv;go_enter Tryz.func164,Tryz.ntmps164;go_wp2;refine yO (af w) [1,2,3,4,5,6,7,8,9,10,11,12,13,14,15,16,17,18,19,20,21,22,23,24,0,25,0,26] (aj (Below.refl _ _)) ?_
 repeat refine zO Y.out ?_
 refine zZ ?_;refine d5.out.mono ?_;rintro e ds ⟨v1,rfl,ea,g⟩;obtain⟨dv,dx,rfl,-,-,ec⟩:=aB.nat ea;rw[ap.out];have ac:Hid (af w ds):=(aj (Below.refl _ _)).trans g;have cp:=Lib.hid ec;clear ea g ec d5 gw gx;refine⟨_,rfl,ac.out,jO ?_⟩
 repeat refine zO Y.out ?_
 refine ag ?_;go_wp2;refine yO (af w) [1,2,3,4,5,6,7,8,9,10,11,12,13,14,0,15,0,16] (aj ac.out) ?_
 repeat refine zO Y.out ?_
 refine zZ ?_;refine(d6.out _ dv dx (aj ac.out) (cp.out.below (aj (Below.refl _ _)))).mono ?_;rintro e bf ⟨kd,rfl,⟨ed,ef⟩,ck⟩;obtain⟨bi,dy,rfl,-,-,eh⟩:=aB.nat ed;rw[bv.out.2];have c7:Hid (af ds bf):=(aj (Below.refl _ _)).trans ef;have a0:Hid (af w bf):=ae ac.out c7.out;have ei:=Lib.hid eh;have gD:Hid (∀o,bi=some o->o.block≠k.wb):=ck.ne (Nat.lt_of_lt_of_le d9.out (aj ac.out).size);clear ck;have fo:=Lib.hid (cp.out.below c7.out);clear ed ef eh d6 cp ac;refine⟨_,rfl,a0.out,jO ?_⟩
 repeat refine zO Y.out ?_
 refine ag ?_;obtain⟨gb,gc,ge,gg⟩:=(Y.out bf a0.out).1;go_wp2_with(go_at_call 203;refine(d7.out bf dv dx a0.out fo.out).mono ?_;rintro e gi ⟨ks,rfl,⟨ek,cq⟩,el⟩;obtain⟨bo,dz,rfl,-,-,em⟩:=aB.nat ek;rw[bx.out.2,ap.out,Nat.add_sub_cancel];have cs:Hid (af w gi):=ae a0.out cq;have en:=Lib.hid em;have gN:Hid (∀o,bo=some o->o.block≠k.wb):=el.ne (Nat.lt_of_lt_of_le d9.out a0.out.size);clear el;have fr:=Lib.hid (ei.out.below cq);have g0:=(am.out.below cs.out).cells.2.2.2.1.2.2.2;clear ek cq em)
 have eq:=Lib.hid (am.out.below cs.out);have fv:=Lib.hid (d8.out.below cs.out);obtain⟨n,hn⟩:∃n,n=k.n:=⟨_,rfl⟩;have Q:=Lib.hid hn;obtain⟨L,dE⟩:∃L,L=k.S-1:=⟨_,rfl⟩;have go:=Lib.hid dE;have la:IntKind.i64.wrap ((k.S:Int)-1)=(L:Int):=by rw[aG _ oO oO];omega
 have lc:n<=L:=oO;have li:L<=4095:=oO;obtain⟨bq,g1⟩:∃bq,bq=k.first+k.S:=⟨_,rfl⟩;obtain⟨T,er⟩:∃T,T=k.first+k.S-2:=⟨_,rfl⟩;have g2:=Lib.hid er;have ll:IntKind.i64.wrap ((k.first:Int)+(k.S:Int))=(bq:Int):=by rw[aG _ oO oO];omega
 have lm:IntKind.i64.wrap ((bq:Int)-2)=(T:Int):=by rw[aG _ oO oO];omega
 have it:T<=8190:=oO;have es:Hid (r.length=n):=by show _=_;rw[<-am.out.hw,hn]
 clear hn dE g1 er ei fo d8 gb gc ge gg g0 c7 d7 Y am;go_loopw [62] (λce wr=>∃t:Nat,t<=F/\ce= .int .i64 t/\Hid (DS k wr (.slice a7 k.par c1) (.slice a8 1 a9) (.slice bb (m+1) bd) (.slice be F dl) (jc k.S k.P r (P.take t) (ij k.S k.P k.first n ev sl)))/\Hid (∀i,i∈P.take t->jT k.S k.P k.first n sl i≠0)/\Hid (RD wr be (zl P))/\Hid (RD wr bi (zl ev))/\Hid (RD wr bo (zl sl))) (λce _=>F-(intOf ce).toNat)
 case atStart=>exact⟨0,Nat.zero_le _,rfl,by rw[List.take_zero,Ga];exact eq.out,λi O=>by simp at O,fv.out,fr.out,en.out⟩
 case round=>
  clear eq fv fr en;obtain⟨t,kw,rfl,f,cv,cx,c2,c3⟩:=hrel;by_cases bz:t<F
  ·obtain⟨i,ad⟩:∃i,i=P.getD t 0:=⟨_,rfl⟩;have c8:i∈P:=by
    rw[ad];have hl:t<P.length:=by rw[<-K.out];exact bz
    rw[show P.getD t 0=P[t]from by simp[List.getD,hl]];exact List.getElem_mem hl
   have c4:i<n:=by rw[Q.out];exact gy.out i c8
   have iv:=Lib.hid c8;obtain⟨cl,b1⟩:∃cl,cl=jc k.S k.P r (P.take t) (ij k.S k.P k.first n ev sl):=⟨_,rfl⟩;have fz:Hid (cl.set i (bQ k.S k.P (cl.getD i 0) (ij k.S k.P k.first n ev sl i))=jc k.S k.P r (P.take (t+1)) (ij k.S k.P k.first n ev sl)):=by
    show _=_;rw[b1,ad];exact Ic gz.out (by rw[<-K.out];exact bz) (by rw[es.out,<-ad];exact c4)
   have ix:Hid (cl.length=n):=by show _=_;rw[b1,fl,es.out]
   rw[<-b1]at f;obtain⟨u,ch⟩:∃u,u=cl.getD i 0:=⟨_,rfl⟩;have d0:Hid (u<k.S):=by show _<_;rw[ch];exact f.out.lt i
   have b2:=f.out.W.2 i (by rw[ix.out];exact c4);rw[<-ch]at b2 fz;obtain⟨D,b3⟩:∃D,D=n-1-i:=⟨_,rfl⟩;obtain⟨x,et⟩:∃x,x=L-D:=⟨_,rfl⟩;have ls:IntKind.i64.wrap ((L:Int)-(D:Int))=(x:Int):=by rw[aG _ oO oO];omega
   have g3:x<=100000000:=oO;have i0:D<=4095:=oO;have c9:Hid (∀W,af wr W->Calls Tryz.prog 199 #[.pointer (some ⟨k.db,0,none⟩),.int .i64 i] W λe w'=>e= .returned (.int .i64 (D:Int))/\Below W.heap.size W w'):=by
    show∀W,_;intro W a;have:=KW k _ _ _ _ _ i W (f.out.below a) (by rw[<-Q.out];exact c4);rw[<-Q.out,<-b3]at this;exact this
   obtain⟨y,a1⟩:∃y,y=ig k.S k.P n i:=⟨_,rfl⟩;have ew:iV k.S k.P x=y:=by rw[a1,et,b3,go.out];rfl
   have ex:Hid (y<k.S):=by show _<_;rw[a1];exact je d _
   have ey:Hid (∀W,af wr W->Calls Tryz.prog 152 #[fw k.C k.S k.be k.bl,.int .i64 (x:Int)] W λe w'=>e= .returned (.int .i64 (y:Int))/\Below W.heap.size W w'):=by
    show∀W,_;intro W a;have:=lS k.C k.S k.P k.be k.bl x W d g3 (f.out.below a).T;rw[ew]at this;exact this
   obtain⟨G,b4⟩:∃G,G=D* T:=⟨_,rfl⟩;have i1:G<=100000000:=by
    rw[b4];have:=Nat.mul_le_mul i0 it;omega
   have lv:IntKind.i64.wrap ((D:Int)* (T:Int))=(G:Int):=by
    have e:(D:Int)* (T:Int)=(G:Int):=by rw[b4];simp
    rw[e];exact aG _ oO oO
   obtain⟨Z,b5⟩:∃Z,Z=iV k.S k.P G:=⟨_,rfl⟩;have g4:Hid (Z<k.S):=by show _<_;rw[b5];exact je d _
   have ez:Hid (∀W,af wr W->Calls Tryz.prog 152 #[fw k.C k.S k.be k.bl,.int .i64 (G:Int)] W λe w'=>e= .returned (.int .i64 (Z:Int))/\Below W.heap.size W w'):=by
    show∀W,_;intro W a;have:=lS k.C k.S k.P k.be k.bl G W d i1 (f.out.below a).T;rw[<-b5]at this;exact this
   obtain⟨ab,b6⟩:∃ab,ab=hornN k.S k.P y sl:=⟨_,rfl⟩;have i2:Hid (ab<k.S):=by show _<_;rw[b6];exact j9 d _ sl (fW bx.out.1)
   have eA:Hid (∀W,af wr W->Calls Tryz.prog 202 #[fw k.C k.S k.be k.bl,.slice bo m dz,.int .i64 (y:Int)] W λe w'=>e= .returned (.int .i64 (ab:Int))/\Below W.heap.size W w'):=by
    show∀W,_;intro W a;rw[b6];exact vd k.C k.S k.P k.be k.bl y sl m (by rw[bx.out.2,ap.out,Nat.add_sub_cancel]) bo dz W d ex.out bx.out.1 oO (f.out.below a).T (c3.out.below a)
   obtain⟨H,b7⟩:∃H,H=hornN k.S k.P y ev:=⟨_,rfl⟩;have g5:Hid (H<k.S):=by show _<_;rw[b7];exact j9 d _ ev (fW bv.out.1)
   have e0:Hid (∀W,af wr W->Calls Tryz.prog 202 #[fw k.C k.S k.be k.bl,.slice bi k.par dy,.int .i64 (y:Int)] W λe w'=>e= .returned (.int .i64 (H:Int))/\Below W.heap.size W w'):=by
    show∀W,_;intro W a;rw[b7];exact vd k.C k.S k.P k.be k.bl y ev k.par bv.out.2.symm bi dy W d ex.out bv.out.1 oO (f.out.below a).T (c2.out.below a)
   obtain⟨z,b8⟩:∃z,z=aF k.S k.P Z ab:=⟨_,rfl⟩;have c5:Hid (jT k.S k.P k.first n sl i=z):=by
    show _=_;rw[b8,b5,b4,b3,g2.out,b6,a1];rfl
   have i3:=Lib.hid b8;have g6:Hid (z<k.S):=by show _<_;rw[b8];exact bN d _ _
   have g7:Hid (ij k.S k.P k.first n ev sl i=aF k.S k.P H (dU k.S k.P z)):=by
    show _=_;unfold ij;rw[c5.out,b7,a1]
   have l:Hid (∀W,af wr W->(W.cell? ⟨k.db,0,none⟩=some (.int .i64 k.C)/\W.cell? ⟨k.db,1,none⟩=some (.int .i64 k.S)/\W.cell? ⟨k.db,2,none⟩=some (.slice (some ⟨k.be,0,none⟩) (k.S-1) (k.S-1))/\W.cell? ⟨k.db,3,none⟩=some (.slice (some ⟨k.bl,0,none⟩) k.S k.S))/\
    W.cell? ⟨k.db,8,none⟩=some (.int .i64 k.first)/\W.cell? ⟨k.db,9,none⟩=some (.slice (some ⟨k.wb,0,none⟩) n k.cw)/\W.cell? ⟨k.wb,i,none⟩=some (.int .i64 (u:Int))/\W.frozen? ⟨k.wb,i,none⟩=false):=by
    show∀W,_;intro W a;obtain⟨M,⟨-,-,-,-,V⟩,⟨N,-,-⟩,-,-⟩:=(f.out.below a).cells;rw[<-Q.out]at N;exact⟨M,V,N,(a.cell f.out.W.1).trans b2.1,(a.frozen f.out.W.1).trans b2.2⟩
   obtain⟨lw,rfl,jp,fx⟩:=cx.out (by rw[aw,<-K.out];omega);have d1:=fx t (by rw[aw,<-K.out];exact bz);rw[dh,<-ad]at d1;have g8:=Lib.hid ad;clear fx jp ad b1 ch b2 b3 et a1 ew b4 b5 b6 b7 b8 c8;go_wp2;clear d1;refine cf (S:=af wr) 15 oK oK (aj (Below.refl _ _)) ?_;simp only[List.take_succ_cons,List.take_zero,List.drop_succ_cons,List.drop_zero]
   repeat refine kO l.out ?_
   refine kX (λW a=>c9.out W a) ?_
   repeat refine kO l.out ?_
   refine kX (λW a=>ey.out W a) ?_
   repeat refine kO l.out ?_
   refine dj ?_;intro kz g;have g9:=Lib.hid g;clear g;go_wp2;refine cf (S:=af wr) 21 oK oK (aj g9.out) ?_;simp only[List.take_succ_cons,List.take_zero,List.drop_succ_cons,List.drop_zero]
   repeat refine kO l.out ?_
   refine kX (λW a=>c9.out W a) ?_
   repeat refine kO l.out ?_
   refine kX (λW a=>ez.out W a) ?_
   repeat refine kO l.out ?_
   refine dj ?_;intro k0 g;have ib:=Lib.hid g;clear g;go_wp2;refine cf (S:=af wr) 13 oK oK (aj ib.out) ?_;simp only[List.take_succ_cons,List.take_zero,List.drop_succ_cons,List.drop_zero]
   repeat refine kO l.out ?_
   refine kX (λW a=>eA.out W a) ?_
   repeat refine kO l.out ?_
   refine kX (λW a=>k6 k.C k.S k.P k.be k.bl Z ab W d g4.out i2.out (f.out.below a).T) ?_
   repeat refine kO l.out ?_
   refine dj ?_;intro k1 g;have e9:=Lib.hid g;clear g;rw[<-i3.out];clear c9 ey ez eA;by_cases c6:z=0
   ·have gp:((z:Int)==0)=true:=by rw[beq_iff_eq];omega
    have ih:=Lib.hid (gC.out i iv.out (by rw[<-Q.out,c5.out];exact c6));clear e0;go_wp2;go_ret;refine⟨_,rfl,?_⟩;rw[<-d4.out];refine⟨ih.out.symm,cl,?_,λh=>by cases h⟩;rw[fn.out,ap.out,<-K.out];exact f.out.below e9.out
   ·have gp:((z:Int)==0)=false:=by rw[beq_eq_false_iff_ne];omega
    obtain⟨J,b9⟩:∃J,J=aF k.S k.P H (dU k.S k.P z):=⟨_,rfl⟩;have i4:=Lib.hid b9;have i5:Hid (J<k.S):=by show _<_;rw[b9];exact bN d _ _
    have i6:Hid (cl.set i (bQ k.S k.P u J)=jc k.S k.P r (P.take (t+1)) (ij k.S k.P k.first n ev sl)):=by
     show _=_;rw[<-fz.out,g7.out,b9]
    clear b9;go_wp2;refine cf (S:=af wr) 31 oK oK (aj e9.out) ?_;simp only[List.take_succ_cons,List.take_zero,List.drop_succ_cons,List.drop_zero]
    repeat refine kO l.out ?_
    refine kX (λW a=>e0.out W a) ?_
    repeat refine kO l.out ?_
    refine kX (λW a=>oX k.C k.S k.P k.be k.bl H z W d g5.out g6.out c6 (f.out.below a).T) ?_
    repeat refine kO l.out ?_
    refine kX (λW a=>o5 k.C k.S k.P k.be k.bl u (aF k.S k.P H (dU k.S k.P z)) W d d0.out (bN d _ _)) ?_
    repeat refine kO l.out ?_
    refine dj ?_;intro gq g;have a2:=Lib.hid g;clear g;rw[<-i4.out];obtain⟨-,-,-,lx,ly⟩:=l.out gq a2.out;have fb:=Lib.hid ((f.out.below a2.out).word i (bQ k.S k.P u J) (kl d _ _ d0.out i5.out));have i7:=Lib.hid ((cx.out.below a2.out).word io.out i (.int .i64 (bQ k.S k.P u J:Nat)));have i8:=Lib.hid ((c2.out.below a2.out).word gD.out i (.int .i64 (bQ k.S k.P u J:Nat)));have i9:=Lib.hid ((c3.out.below a2.out).word gN.out i (.int .i64 (bQ k.S k.P u J:Nat)));rw[i6.out]at fb;go_wp2;refine⟨⟨t+1,by omega,by go_num,fb.out,λj U=>?_,i7.out,i8.out,i9.out⟩,by simp[intOf];omega⟩;rw[List.take_add_one,List.mem_append]at U;rcases U with U|U
    ·exact cv.out j U
    ·have hl:t<P.length:=by rw[<-K.out];exact bz
     have gs:P[t]?=some i:=by rw[g8.out,List.getElem?_eq_getElem hl];simp[List.getD,hl]
     rw[gs]at U;obtain rfl:j=i:=by simpa using U
     rw[c5.out];exact c6
  ·have fc:t=F:=oO;have ii:Hid (P.take t=P):=by show _=_;rw[fc,K.out,List.take_length]
   rw[ii.out]at f cv;subst fc;clear cx c2 c3;go_wp2;go_ret;refine⟨_,rfl,?_⟩;rw[<-d4.out];refine⟨(decide_eq_true (λi O=>by rw[<-Q.out];exact cv.out i O)).symm,_,?_,λ_=>by rw[<-Q.out]⟩;rw[fn.out,ap.out,<-K.out];exact f.out
def jV (s p par first:Nat) (w:List Nat) (r:Option (List Nat)):Prop:=(∀v,Fix s p par first w v->r=some v)/\∀v,r=some v->Fix s p par first w v
theorem yc {c s p:Nat} (h:VF c s p) {par first:Nat} {w q:List Nat} {L:Nat} (a:ao s w) (hn:w.length<=s-1) (hq:ao s q) (f:dF q) (g:mi h (co h (cV s p par first w)) par (co h q) L):
 jV s p par first w (sV s p par first w q (fI s p (cV s p par first w) q par par 0) (lj s p c q (q.length-1))):=by
 have e:(cV s p par first w).length=par:=by unfold cV;simp
 have d:=Kd h (ym h (par:=par) (first:=first) a) e hq;rw[e]at d;exact⟨λv b=>IC h a hn b hq f g d,λv b=>Ey h a b⟩
def nn (k:DK) (c:List Nat) (w':World) (b:Bool):Prop:=∃r:Option (List Nat),jV k.S k.P k.par k.first c r/\b=r.isSome/\∃d e f g a,DS k w' d e f g a/\∀v,r=some v->a=v
abbrev bm:Value:= .slice none 0 0
def ET (k:DK) (d:VF k.C k.S k.P) (a:List Nat) (wr:World):Nat->Prop
 |0=>DS k wr bm bm bm bm a
 |1=>∃v1,DS k wr v1 bm bm bm a/\aB wr v1 (zl (cV k.S k.P k.par k.first a))
 |2=>∃v1 b,DS k wr v1 b bm bm a/\aB wr v1 (zl (cV k.S k.P k.par k.first a))/\aB wr b (zl [1])
 |3=>∃v1 b e q L,DS k wr v1 b e bm a/\aB wr v1 (zl (cV k.S k.P k.par k.first a))/\aB wr b (zl [1])/\aB wr e (zl q)/\ao k.S q/\dF q/\1<=q.length/\q.length<=k.par+1/\mi d (co d (cV k.S k.P k.par k.first a)) k.par (co d q) L/\2* (q.length-1)<=k.par
 |4=>∃v1 b e v4 q L,DS k wr v1 b e v4 a/\aB wr v1 (zl (cV k.S k.P k.par k.first a))/\aB wr b (zl [1])/\aB wr e (zl q)/\aB wr v4 (zl (iq k.S k.P k.n q))/\(∀A n c f,v4= .slice A n c->A=some f->f.block≠k.wb)/\ao k.S q/\dF q/\1<=q.length/\q.length<=k.par+1/\mi d (co d (cV k.S k.P k.par k.first a)) k.par (co d q) L/\2* (q.length-1)<=k.par/\(iq k.S k.P k.n q).length=q.length-1
 |5=>∃v1 b e v4 q L,DS k wr v1 b e v4 (jc k.S k.P a (iq k.S k.P k.n q) (ij k.S k.P k.first k.n (fI k.S k.P (cV k.S k.P k.par k.first a) q k.par k.par 0) (lj k.S k.P k.C q (q.length-1))))/\ao k.S q/\dF q/\mi d (co d (cV k.S k.P k.par k.first a)) k.par (co d q) L/\2* (q.length-1)<=k.par/\(iq k.S k.P k.n q).length=q.length-1/\∀i,i∈iq k.S k.P k.n q->jT k.S k.P k.first k.n (lj k.S k.P k.C q (q.length-1)) i≠0
 |_=>nn k a wr true
abbrev kM (db f:Nat):Value:= .func (Fn.func f) #[.pointer (some ⟨db,0,none⟩)] #[]
abbrev xu (db:Nat):List Value:=[kM db 160,kM db 161,kM db 162,kM db 163,kM db 164,kM db 165]
def DK.steps (k:DK) (a:Nat):DK:={k with M:=a+1,X:=λW=>k.X W/\aa W a (xu k.db).toArray 25}
theorem DS.steps {k:DK} {w:World} {e f j l:Value} {m:List Nat} (h:DS k w e f j l m):DS (k.steps w.heap.size) (w.alloc (.cells (xu k.db).toArray 25)) e f j l m:=by
 have b:=h.below (ax w (.cells (xu k.db).toArray 25));have a:=h.ok;obtain⟨o,p,q,r,s,t⟩:=a.m;have hs:=h.sz;refine⟨⟨a.vf,a.p1,a.p2,a.f2,a.n1,a.n2,a.M7,a.M3,a.lo,a.e1,a.e2,a.e3,a.e4,a.e5,a.e6,a.e7,?_,?_,?_⟩,b.B,?_,b.R,b.W,b.hw,b.lt,b.T,b.E,⟨b.X,?_⟩⟩
 ·rintro wr W ⟨c,d⟩ hb n;exact⟨a.xb _ _ c (hb.mono (Nat.le_succ_of_le hs)) n,(hb.block _ (Nat.lt_succ_self _)).trans d⟩
 ·rintro wr g i u hg ⟨c,d⟩;refine⟨a.xs _ _ _ _ hg c,(heap_setCell_other wr ⟨g,i,none⟩ w.heap.size _ ?_).trans d⟩;show w.heap.size≠g;have v:g<k.M:=by rcases hg with hg|hg<;>rw[hg]<;>assumption
  omega
 ·show k.N<=w.heap.size+1/\k.db<w.heap.size+1/\k.wb<w.heap.size+1/\k.eb<w.heap.size+1/\k.be<w.heap.size+1/\k.bl<w.heap.size+1;omega
 ·show w.heap.size+1<=(w.alloc _).heap.size;exact Nat.le_of_eq oS
 ·exact aa.new _ _ _ _ rfl
theorem DS.Lf {k:DK} {a:Nat} {w:World} {b c d e:Value} {f:List Nat} (h:DS (k.steps a) w b c d e f) (g:k.Ok) (i:k.M<=a+1):DS k w b c d e f:=
 ⟨g,h.B,Nat.le_trans i h.sz,h.R,h.W,h.hw,h.lt,h.T,h.E,h.X.1⟩
theorem E7 (s p n:Nat) (q:List Nat):(iq s p n q).Nodup:=List.nodup_range.filter _
theorem CX {s p n:Nat} {q:List Nat} {i:Nat} (h:i∈iq s p n q):i<n:=List.mem_range.mp (List.mem_filter.mp h).1
theorem Lp (k:DK) (c d f g:Value) (a:List Nat) (w:World) (b:Bool) (h:DS k w c d f g a) (hb:(cV k.S k.P k.par k.first a).all (·==0)=b):
 Calls Tryz.prog 165 #[.pointer (some ⟨k.db,0,none⟩)] w λe w'=>e= .returned (.bool b)/\Below w.heap.size w w':=by
 subst hb;exact Hn k c d f g a w h
noncomputable abbrev G5 (k:DK) (a q:List Nat):Option (List Nat):=sV k.S k.P k.par k.first a q (fI k.S k.P (cV k.S k.P k.par k.first a) q k.par k.par 0) (lj k.S k.P k.C q (q.length-1))
theorem rT {k:DK} (a:VF k.C k.S k.P) {b q:List Nat} {L:Nat} {w':World} {c d f g:Value} {n:List Nat} (i:DS k w' c d f g n) (j:ao k.S b) (hn:b.length<=k.S-1) (hq:ao k.S q) (l:dF q) (m:mi a (co a (cV k.S k.P k.par k.first b)) k.par (co a q) L) (e:G5 k b q=none):nn k b w' false:=
 ⟨none,by rw[<-e];exact yc a j hn hq l m,rfl,_,_,_,_,_,i,λv a=>by cases a⟩
theorem JS {k:DK} (a:VF k.C k.S k.P) {b q:List Nat} {L:Nat} {w':World} {d f g i:Value} {c:List Nat} (j:DS k w' d f g i c) (l:ao k.S b) (hn:b.length<=k.S-1) (hq:ao k.S q) (m:dF q) (n:mi a (co a (cV k.S k.P k.par k.first b)) k.par (co a q) L) (e:G5 k b q=some c):nn k b w' true:=
 ⟨some c,by rw[<-e];exact yc a l hn hq m n,rfl,_,_,_,_,_,j,λv a=>by injection a⟩
theorem Ln (k:DK) (c:List Nat) (w:World) (h:DS k w bm bm bm bm c):
 Calls Tryz.prog 120 #[.pointer (some ⟨k.db,0,none⟩)] w λe w'=>∃b,e= .returned (.bool b)/\nn k c w' b:=by
 have s:=h.ok.vf;have N:k.n=c.length:=h.hw;have O:Hid (ao k.S c):=h.lt;have P:Hid (c.length<=k.S-1):=by show _<=_;rw[<-N];exact h.ok.n2
 have al:=Lib.hid h.ok;have a2:Hid (k.M<=w.heap.size+1):=Nat.le_succ_of_le h.sz;have a3:Hid (ET (k.steps w.heap.size) s c (w.alloc (.cells (xu k.db).toArray 25)) 0):=h.steps;have HC:Hid (∀W X Y Z c wr,DS (k.steps w.heap.size) wr W X Y Z c->aa wr w.heap.size (xu k.db).toArray 25):=λ_ _ _ _ _ _ h=>h.X.2;have G:Hid (∀w' b,nn (k.steps w.heap.size) c w' b->nn k c w' b):=by
  show∀_ _,_;rintro w' b ⟨r,Q,D,W,X,Y,Z,am,S,a4⟩;exact⟨r,Q,D,W,X,Y,Z,am,S.Lf al.out a2.out,a4⟩
 generalize bb:nn k c=bo at G⊢;clear bb;clear h;go_enter Tryz.func120,Tryz.ntmps120;go_wp2;go_loopw [21] (λab wr=>∃j:Nat,ab= .int .i64 j/\j<=6/\Hid (ET (k.steps w.heap.size) s c wr j)) (λab _=>6-(intOf ab).toNat)
 case atStart=>exact⟨0,rfl,by omega,a3⟩
 case round=>
  obtain⟨j,rfl,ac,J⟩:=hrel
  match j,ac,J with
  |0,_,J=>
   have d:Hid (DS (k.steps w.heap.size) wr bm bm bm bm c):=J;have hc:wr.cell? ⟨w.heap.size,0,none⟩=some (kM k.db 160):=(HC.out _ _ _ _ _ _ d.out).cell 0 _ rfl;go_wp2_with(go_at_call 160;refine(Dg (k.steps w.heap.size) bm bm bm bm c _ d.out ⟨_,_,_,rfl⟩).mono ?_;rintro e E ⟨rfl,f⟩)
   exact⟨⟨1,rfl,by omega,f⟩,by simp[intOf]⟩
  |1,_,⟨v1,a,n⟩=>
   have d:=Lib.hid a;have x:=Lib.hid n;clear a n;have hc:wr.cell? ⟨w.heap.size,1,none⟩=some (kM k.db 161):=(HC.out _ _ _ _ _ _ d.out).cell 1 _ rfl;go_wp2_with(go_at_call 161;refine(FY (k.steps w.heap.size) v1 bm bm bm c _ d.out ⟨_,_,_,rfl⟩).mono ?_;rintro e E ⟨rfl,g,Q,D,S⟩;have f:ET (k.steps w.heap.size) s c E 2:=⟨v1,g,Q,S _ _ x.out,D⟩;clear Q D S)
   exact⟨⟨2,rfl,by omega,f⟩,by simp[intOf]⟩
  |2,_,⟨v1,g,a,n,t⟩=>
   have d:=Lib.hid a;have x:=Lib.hid n;have H:=Lib.hid t;clear a n t;have hc:wr.cell? ⟨w.heap.size,2,none⟩=some (kM k.db 162):=(HC.out _ _ _ _ _ _ d.out).cell 2 _ rfl;go_wp2_with(go_at_call 162;refine(Fp (k.steps w.heap.size) v1 g bm bm c _ d.out x.out H.out ⟨_,_,_,rfl⟩).mono ?_;rintro e E ⟨b,rfl,u⟩;have f:=Lib.hid u;clear u;cases b)
   ·obtain⟨q,L,hb,hq,l,z,A,m,o,a,-,-⟩:=f.out;go_ret;refine⟨false,rfl,G.out _ _ (rT (k:=k.steps w.heap.size) s a O.out P.out hq l m (if_neg λB=>?_))⟩;exact absurd B.1 (of_decide_eq_false hb.symm)
   ·obtain⟨q,L,hb,hq,l,z,A,m,o,a,C,F⟩:=f.out;exact⟨⟨3,rfl,by omega,⟨v1,g,o,q,L,a,F _ _ x.out,F _ _ H.out,C,hq,l,z,A,m,of_decide_eq_true hb.symm⟩⟩,by simp[intOf]⟩
  |3,_,⟨v1,g,o,q,L,a,n,t,C,hq,l,z,A,m,K⟩=>
   have d:=Lib.hid a;have x:=Lib.hid n;have H:=Lib.hid t;have V:=Lib.hid C;have p:=Lib.hid hq;have y:=Lib.hid l;have v:=Lib.hid m;have a5:q.length<=k.par+1:=A;have bd:=al.out.p2;have a6:=s.le;clear a n t C hq l m;have hc:wr.cell? ⟨w.heap.size,3,none⟩=some (kM k.db 163):=(HC.out _ _ _ _ _ _ d.out).cell 3 _ rfl;go_wp2_with(go_at_call 163;refine(EK (k.steps w.heap.size) v1 g o c q _ d.out V.out p.out z oO).mono ?_;rintro e E ⟨b,rfl,u⟩;have f:=Lib.hid u;clear u;cases b)
   ·obtain⟨hb,v4,a,-⟩:=f.out;go_ret;refine⟨false,rfl,G.out _ _ (rT (k:=k.steps w.heap.size) s a O.out P.out p.out y.out v.out (if_neg λB=>?_))⟩;have:=B.2.1;rw[<-N]at this;exact absurd this (of_decide_eq_false hb.symm)
   ·obtain⟨hb,v4,a,T,U,F⟩:=f.out;exact⟨⟨4,rfl,by omega,⟨v1,g,o,v4,q,L,a,F _ _ x.out,F _ _ H.out,F _ _ V.out,T,U,p.out,y.out,z,A,v.out,K,of_decide_eq_true hb.symm⟩⟩,by simp[intOf]⟩
  |4,_,⟨v1,g,o,v4,q,L,a,n,t,C,T,U,hq,l,z,A,m,K,M⟩=>
   have d:=Lib.hid a;have x:=Lib.hid n;have H:=Lib.hid t;have V:=Lib.hid C;have be:=Lib.hid T;have p:=Lib.hid hq;have y:=Lib.hid l;have v:=Lib.hid m;have a7:=Lib.hid U;have ap:=Lib.hid M;have a5:q.length<=k.par+1:=A;have bd:=al.out.p2;have a6:=s.le;clear a n t C T U hq l m M;have hc:wr.cell? ⟨w.heap.size,4,none⟩=some (kM k.db 164):=(HC.out _ _ _ _ _ _ d.out).cell 4 _ rfl;go_wp2_with(go_at_call 164;refine(Db (k.steps w.heap.size) v1 g o v4 c q (iq k.S k.P k.n q) _ d.out x.out H.out V.out be.out a7.out p.out z oO (E7 _ _ _ _) (λi a8=>CX a8)).mono ?_;rintro e E ⟨b,rfl,u⟩;have f:=Lib.hid u;clear u;cases b)
   ·obtain⟨hb,am,a,-⟩:=f.out;go_ret;refine⟨false,rfl,G.out _ _ (rT (k:=k.steps w.heap.size) s a O.out P.out p.out y.out v.out (if_neg λB=>?_))⟩;have:=B.2.2.1;rw[<-N]at this;exact absurd this (of_decide_eq_false hb.symm)
   ·obtain⟨hb,am,a,a9⟩:=f.out;rw[a9 rfl]at a;exact⟨⟨5,rfl,by omega,⟨v1,g,o,v4,q,L,a,p.out,y.out,v.out,K,ap.out,of_decide_eq_true hb.symm⟩⟩,by simp[intOf]⟩
  |5,_,⟨v1,g,o,v4,q,L,a,hq,l,m,K,M,av⟩=>
   have d:=Lib.hid a;have p:=Lib.hid hq;have y:=Lib.hid l;have v:=Lib.hid m;have ap:=Lib.hid M;have bf:=Lib.hid av;clear a hq l m M av;generalize hb:(cV k.S k.P k.par k.first (jc k.S k.P c (iq k.S k.P k.n q) (ij k.S k.P k.first k.n (fI k.S k.P (cV k.S k.P k.par k.first c) q k.par k.par 0) (lj k.S k.P k.C q (q.length-1))))).all (·==0)=b;have ad:=Lib.hid hb;clear hb;have hc:wr.cell? ⟨w.heap.size,5,none⟩=some (kM k.db 165):=(HC.out _ _ _ _ _ _ d.out).cell 5 _ rfl;go_wp2_with(go_at_call 165;refine(Lp (k.steps w.heap.size) v1 g o v4 _ _ b d.out ad.out).mono ?_;rintro e E ⟨rfl,a0⟩;have a1:=Lib.hid (d.out.below a0);clear a0;cases b)
   ·go_ret;refine⟨false,rfl,G.out _ _ (rT (k:=k.steps w.heap.size) s a1.out O.out P.out p.out y.out v.out (if_neg λB=>?_))⟩;have:=s9.mpr B.2.2.2;rw[<-N]at this;have D:=ad.out.symm.trans this;cases D
   ·refine⟨⟨6,rfl,by omega,?_⟩,by simp[intOf]⟩;refine JS (k:=k.steps w.heap.size) s a1.out O.out P.out p.out y.out v.out ?_;show sV _ _ _ _ _ _ _ _=_;unfold sV;rw[<-N];exact if_pos ⟨K,ap.out,bf.out,s9.mp ad.out⟩
  |6,_,J=>
   have bi:Hid (nn (k.steps w.heap.size) c wr true):=J;go_wp2;go_ret;exact⟨true,rfl,G.out _ _ bi.out⟩
  |j+7,ac,_=>exact absurd ac oO
theorem zx (c s p:Int) (xs:List Int) (A:Option Addr) (q:Nat) (w:World) (v:xs.length<=9223372036854775807) (l:RD w A xs):
 Calls Tryz.prog 151 #[cD c s p,.slice A xs.length q] w λe w'=>e= .returned (.bool (gA s xs))/\Below w.heap.size w w':=by
 have r:=Lib.hid (l.alloc (.cells #[.int .i64 c,.int .i64 s,.int .i64 p] 89));clear l;generalize hn:xs.length=n at*;have a:=Lib.hid hn;clear hn;go_enter Tryz.func151,Tryz.ntmps151;go_wp2;go_loop [6,9] (λ_ i=>∃k:Nat,k<=n/\i= .int .i64 k/\Hid (∀j,j<k->0<=xs.getD j 0/\xs.getD j 0<s)) (λ_ i=>n-(intOf i).toNat)
 case atStart=>exact⟨0,Nat.zero_le _,rfl,λj t=>by omega⟩
 case round=>
  obtain⟨k,y,rfl,hid⟩:=hrel;have g:Hid (Below w.heap.size w (w.alloc (.cells #[.int .i64 c,.int .i64 s,.int .i64 p] 89))):=(Below.refl _ _).alloc (Nat.le_refl _) _;by_cases f:k<n
  ·obtain⟨z,rfl,-,o⟩:=r.out (by rw[a.out];omega);have D:=o k (by rw[a.out];exact f);clear o;generalize m:xs.getD k 0=x at*;have d:=Lib.hid m;clear m;by_cases B:x<0
   ·have b:=Lib.hid (ry (s:=s) (k:=k) (by rw[a.out];exact f) (by rw[d.out];omega));go_wp2;go_ret;exact⟨bP b.out.symm,g.out⟩
   ·by_cases C:s<=x
    ·have b:=Lib.hid (ry (s:=s) (k:=k) (by rw[a.out];exact f) (by rw[d.out];omega));go_wp2;go_ret;exact⟨bP b.out.symm,g.out⟩
    ·go_wp2;refine⟨⟨k+1,by omega,by go_num,?_⟩,by simp[intOf];omega⟩;intro j t;by_cases u:j=k
     ·subst u;rw[d.out];omega
     ·exact hid.out j oO
  ·obtain rfl:k=n:=oO;have b:=Lib.hid (yk (s:=s) (xs:=xs) (by rw[a.out];exact hid.out));go_wp2;go_ret;exact⟨bP b.out.symm,g.out⟩
structure fJ (C S P par first:Nat):Prop where
 vf:VF C S P
 p1:1<=par
 p2:par<=S-2
 f2:first<=S-2
theorem fJ.s3 {C S P par first:Nat} (h:fJ C S P par first):3<=S/\S<=4096:=by
 have:=h.p1;have:=h.p2;have:=h.vf.le;omega
theorem zg (C S P par first:Nat) (w:World) (h:fJ C S P par first):
 Calls Tryz.prog 150 #[cD C S P,.int .i64 par,.int .i64 first] w λe w'=>e= .returned (.bool true)/\Below w.heap.size w w':=by
 obtain⟨s3,d⟩:=h.s3;have f:=h.p1;have g:=h.p2;have i:=h.f2;have c:Hid (Below w.heap.size w (w.alloc (.cells #[.int .i64 C,.int .i64 S,.int .i64 P] 89))):=(Below.refl _ _).alloc (Nat.le_refl _) _;obtain⟨a,b⟩:∃a,S=a+2:=⟨S-2,by omega⟩;subst b;have e1:((a+2:Nat):Int)-2=(a:Int):=oO;clear h;go_enter Tryz.func150,Tryz.ntmps150;go_wp2;go_ret;exact⟨bP oT,c.out⟩
theorem rY (w:World) (C S P par first:Nat):Hid (∀W,af (w.alloc (kv C S P par first)) W->W.cell? ⟨w.heap.size,0,none⟩=some (.int .i64 C)/\W.cell? ⟨w.heap.size,1,none⟩=some (.int .i64 S)/\W.cell? ⟨w.heap.size,2,none⟩=some (.int .i64 P)/\W.cell? ⟨w.heap.size,3,none⟩=some (.int .i64 par)/\W.cell? ⟨w.heap.size,4,none⟩=some (.int .i64 first)):=by
 show∀W,_;intro W a;have h:ak (w.alloc (kv C S P par first)) w.heap.size (gJ C S P par first):=ak.new _ _ _ _ rfl;exact mf (h.below a)
theorem qV (C S P par first:Nat) (l:List Nat) (n:Nat) (A:Option Addr) (g:Nat) (w:World) (h:fJ C S P par first) (hn:n=l.length) (hl:ao S l) (x:n<=9223372036854775807) (m:RD w A (zl l)):
 Calls Tryz.prog 112 #[dH C S P par first,.slice A n g] w λe w'=>e= .returned (.bool true)/\Below w.heap.size w w':=by
 have i:=Lib.hid h;have j:=rY w C S P par first
 have v:Hid (Below w.heap.size w (w.alloc (kv C S P par first))):=(Below.refl _ _).alloc (Nat.le_refl _) _;have s:Hid (∀W,af (w.alloc (kv C S P par first)) W->Calls Tryz.prog 151 #[cD C S P,.slice A n g] W λe w'=>e= .returned (.bool true)/\Below W.heap.size W w'):=by
  show∀W,_;intro W t;have:=zx C S P (zl l) A g W (by rw[aw];omega) (m.below (v.out.mono (Nat.le_refl _)|>.trans (t.mono oS)));rw[aw,<-hn,AL hl]at this;exact this
 obtain⟨a,b,c,d,f⟩:=j.out _ (Below.refl _ _);clear m hl hn h;go_enter Tryz.func112,Tryz.ntmps112
 go_wp2_with(first
  |(go_at_call 149;refine(ju C S P _ i.out.vf.s7).mono ?_;rintro e y ⟨rfl,o⟩;rw[kC i.out.vf];have p:=Lib.hid o;clear o a b c d f;obtain⟨a,b,c,d,f⟩:=j.out _ p.out)
  |(go_at_call 150;refine(zg C S P par first _ i.out).mono ?_;rintro e z ⟨rfl,q⟩;have k:=Lib.hid (ae p.out q);clear q a b c d f;obtain⟨a,b,c,d,f⟩:=j.out _ k.out)
  |(go_at_call 151;refine(s.out _ k.out).mono ?_;rintro e B ⟨rfl,r⟩;have u:=Lib.hid (ae k.out r);clear r))
 go_ret;exact⟨rfl,cP u.out⟩
theorem yL (C S P par first n:Nat) (w:World) (b:par<n) (c:n<S):
 Calls Tryz.prog 113 #[dH C S P par first,.int .i64 n] w λe w'=>e= .returned (.bool true)/\Below w.heap.size w w':=by
 have a:Hid (Below w.heap.size w (w.alloc (kv C S P par first))):=(Below.refl _ _).alloc (Nat.le_refl _) _;go_enter Tryz.func113,Tryz.ntmps113;go_wp2;go_ret;exact⟨rfl,a.out⟩
theorem oA (C S P par first:Nat) (w:World) (h:fJ C S P par first):
 Calls Tryz.prog 111 #[cD C S P,.int .i64 par,.int .i64 first] w λe w'=>e= .returned (.tuple #[dH C S P par first,.int .i64 0])/\Below w.heap.size w w':=by
 have d:=Lib.hid h;have j:aa (w.alloc (k8 C S P)) w.heap.size (xW C S P).toArray 89:=aa.new _ _ _ _ rfl;have k:aa ((w.alloc (k8 C S P)).alloc (kv 0 0 0 0 0)) (w.heap.size+1) (gJ 0 0 0 0 0).toArray 91:=aa.new _ _ _ _ oS;have l:Hid (∀W,af ((w.alloc (k8 C S P)).alloc (kv 0 0 0 0 0)) W->aa W w.heap.size (xW C S P).toArray 89/\aa W (w.heap.size+1) (gJ 0 0 0 0 0).toArray 91):=by
  show∀W,_;intro W m;exact⟨(j.below (ax _ _)).below m,k.below m⟩
 have A:Hid (Below w.heap.size w ((w.alloc (k8 C S P)).alloc (kv 0 0 0 0 0))):=(ax _ _).alloc oS _;clear h j k;go_enter Tryz.func111,Tryz.ntmps111;go_wp2_with fail
 refine(ju C S P _ d.out.vf.s7).mono ?_;rintro e g ⟨rfl,o⟩;rw[kC d.out.vf];have p:=Lib.hid o;obtain⟨b,-⟩:=l.out _ p.out;have c0:g.cell? ⟨w.heap.size,0,none⟩=some (.int .i64 C):=b.cell 0 _ rfl;have c1:g.cell? ⟨w.heap.size,1,none⟩=some (.int .i64 S):=b.cell 1 _ rfl;have n:g.cell? ⟨w.heap.size,2,none⟩=some (.int .i64 P):=b.cell 2 _ rfl;clear o b;go_wp2_with fail
 refine(zg C S P par first _ d.out).mono ?_;rintro e a ⟨rfl,q⟩;have r:=Lib.hid (ae p.out q);obtain⟨b,c⟩:=l.out _ r.out;clear q c0 c1 n;have c0:a.cell? ⟨w.heap.size,0,none⟩=some (.int .i64 C):=b.cell 0 _ rfl;have c1:a.cell? ⟨w.heap.size,1,none⟩=some (.int .i64 S):=b.cell 1 _ rfl;have n:a.cell? ⟨w.heap.size,2,none⟩=some (.int .i64 P):=b.cell 2 _ rfl;have s:a.cell? ⟨w.heap.size+1,0,none⟩=some (.int .i64 0):=c.cell 0 _ rfl;have t:a.cell? ⟨w.heap.size+1,1,none⟩=some (.int .i64 0):=c.cell 1 _ rfl;have u:a.cell? ⟨w.heap.size+1,2,none⟩=some (.int .i64 0):=c.cell 2 _ rfl;have x:a.cell? ⟨w.heap.size+1,3,none⟩=some (.int .i64 0):=c.cell 3 _ rfl;have y:a.cell? ⟨w.heap.size+1,4,none⟩=some (.int .i64 0):=c.cell 4 _ rfl;have f:∀i,a.frozen? ⟨w.heap.size+1,i,none⟩=false:=λi=>frozen_of_row _ _ _ _ _ c;have B:=f 0;have D:=f 1;have E:=f 2;have F:=f 3;have G:=f 4;have z:Hid (Below w.heap.size w a):=ae A.out r.out;clear f b c;go_wp2;exact bodyPost_ret (v:= .tuple #[dH C S P par first,.int .i64 0]) (by simp[results,Tryz.results111,go_sem,s,t,u,x,y]) rfl ⟨rfl,((((z.out.setCell oS _).setCell oS _).setCell oS _).setCell oS _).setCell oS _⟩
structure GS (w:World) (b c a:Nat) (d e:List Value) (S P be bl:Nat) (l:List Nat) (wr:World):Prop where
 B:Below w.heap.size w wr
 X:ak wr b d
 Q:ak wr c e
 T:dp wr S P be bl
 O:bR wr a l
 lo:w.heap.size<=a
 n1:b≠a
 n2:c≠a
 n3:be≠a
 n4:bl≠a
theorem GS.below {w:World} {a b c:Nat} {d e:List Value} {S P f bl:Nat} {l:List Nat} {wr W:World} (h:GS w a b c d e S P f bl l wr) (hb:Below wr.heap.size wr W):GS w a b c d e S P f bl l W:=
 ⟨ae h.B hb,h.X.below hb,h.Q.below hb,h.T.below hb,h.O.below hb,h.lo,h.n1,h.n2,h.n3,h.n4⟩
theorem GS.set {w:World} {b c a:Nat} {d e:List Value} {S P f bl:Nat} {l:List Nat} {wr:World} (h:GS w b c a d e S P f bl l wr) (i v:Nat):GS w b c a d e S P f bl (l.set i v) (wr.setCell ⟨a,i,none⟩ (.int .i64 (v:Int))):=
 ⟨h.B.setCell h.lo _,h.X.other _ _ h.n1,h.Q.other _ _ h.n2,h.T.setCell _ _ h.n3 h.n4,h.O.set i v,h.lo,h.n1,h.n2,h.n3,h.n4⟩
noncomputable def nL (s p first par i:Nat):List Nat:=(List.range par).map λj=>if j<i then iV s p (first+j)else 0
theorem pT (s p first par i:Nat):(nL s p first par i).length=par:=by unfold nL;simp
theorem F6 (s p first par:Nat):nL s p first par 0=List.replicate par 0:=by
 refine cZ (by rw[pT,List.length_replicate]) λj a=>?_;rw[pT]at a;unfold nL;rw[bw _ _ _ a,if_neg oO];simp[List.getD,a]
theorem FU (s p first par i:Nat) (b:i<par):(nL s p first par i).set i (iV s p (first+i))=nL s p first par (i+1):=by
 unfold nL;rw[fE _ _ _ _ b];apply List.map_congr_left;intro j c;by_cases e:j=i
 ·subst e;rw[if_pos rfl,if_pos oO]
 ·rw[if_neg e];by_cases a:j<i
  ·rw[if_pos a,if_pos oO]
  ·rw[if_neg a,if_neg oO]
noncomputable def rk (s p first par:Nat):List Nat:=(List.range par).map λj=>iV s p (first+j)
theorem Iv (s p first par:Nat):nL s p first par par=rk s p first par:=by
 unfold nL rk;apply List.map_congr_left;intro j a;rw[List.mem_range]at a;rw[if_pos a]
theorem pR (s p first par:Nat):(rk s p first par).length=par:=by unfold rk;simp
theorem yo {c s p:Nat} (h:VF c s p) (first par:Nat):ao s (rk s p first par):=gT h λi _=>je h _
noncomputable def iN (s p first par:Nat):List Nat:=fromL s p (rk s p first par) par
theorem xM (C S P par first:Nat) (w:World) (h:fJ C S P par first):
 Calls Tryz.prog 114 #[dH C S P par first] w (kS w (zl (iN S P first par),0)):=by
 obtain⟨ac,ad,a9,bb,bd⟩:=info_parts dm;have f:=Lib.hid h;obtain⟨s3,al⟩:=h.s3;have am:=h.p1;have D:=h.p2;have E:=h.f2;have r:=rY w C S P par first
 have t:ak (w.alloc (kv C S P par first)) w.heap.size (gJ C S P par first):=ak.new _ _ _ _ rfl;have F:=Lib.hid t;have ab:Hid (Below w.heap.size w (w.alloc (kv C S P par first))):=(Below.refl _ _).alloc (Nat.le_refl _) _;have bf:par<=4094:=oO;have be:first<=4094:=oO
 obtain⟨g,j,l,m,n⟩:=r.out _ (Below.refl _ _);have N:=run_make_row' (P:=Tryz.prog) 64 3 (.int .i64 0) 8 Tryz.underlying64 dm rfl .i64 .i64 par oO oO;have G:Hid (∀W,Calls Tryz.prog 112 #[dH C S P par first,.slice none 0 0] W λe w'=>e= .returned (.bool true)/\Below W.heap.size W w'):=by
  show∀W,_;intro W;exact qV C S P par first [] 0 none 0 W h rfl (λi=>by simp[List.getD];omega) oO (RD.dO _ _)
 clear h t D E;go_enter Tryz.func114,Tryz.ntmps114
 go_wp2_with(first
  |(go_at_call 112;refine(G.out _).mono ?_;rintro e ap ⟨rfl,y⟩;have s:=Lib.hid y;clear y g j l m n;obtain⟨g,j,l,m,n⟩:=r.out _ s.out)
  |(go_at_call 119;refine(tD C S P _ f.out.vf).mono ?_;rintro e b ⟨a,bl,rfl,d,z,-,-⟩;have u:=Lib.hid d;have o:=Lib.hid (ae s.out z);clear z d g j l m n;obtain⟨g,j,l,m,n⟩:=r.out (b.alloc (ee C S a bl)) (ah o.out _)))
 have O:Hid (w.heap.size<b.heap.size):=by show _<_;have:=o.out.size;simp at this;omega
 have Q:Hid (GS w w.heap.size b.heap.size (b.heap.size+1) (gJ C S P par first) (gW C S a bl) S P a bl (nL S P first par 0) ((b.alloc (ee C S a bl)).alloc (.cells (madeCells #[.int .i64 0] par) 3))):=by
  have av:=O.out;have d:=u.out;refine⟨ah (ah (ae ab.out o.out) _) _,((F.out.below o.out).alloc _).alloc _,(ak.new _ _ _ _ rfl).alloc _,(d.alloc _).alloc _,?_,by omega,by omega,by omega,by have:=d.1;omega,by have:=d.2.1;omega⟩;rw[F6];exact bR.made _ _ _ _ oS
 generalize H:(b.alloc (ee C S a bl)).alloc (.cells (madeCells #[.int .i64 0] par) 3)=a0 at*;clear H g j l m n s u o;generalize T:b.heap.size=p at*;clear T;clear N;go_loopw [18] (λi wr=>∃k:Nat,k<=par/\i= .int .i64 k/\Hid (GS w w.heap.size p (p+1) (gJ C S P par first) (gW C S a bl) S P a bl (nL S P first par k) wr)) (λi _=>par-(intOf i).toNat)
 case atStart=>exact⟨0,Nat.zero_le _,rfl,Q⟩
 case round=>
  obtain⟨k,a1,rfl,c⟩:=hrel;by_cases A:k<par
  ·obtain⟨a2,a3,a4,a5⟩:=dY c.out.Q;obtain⟨c0,c1,J,K,L⟩:=mf c.out.X;have U:Hid (Calls Tryz.prog 152 #[fw C S a bl,.int .i64 ((first:Int)+(k:Int))] wr λe w'=>e= .returned (.int .i64 ((iV S P (first+k):Nat):Int))/\Below wr.heap.size wr w'):=by
    have:=lS C S P a bl (first+k) wr f.out.vf oO c.out.T;show Calls _ _ _ _ _;simpa using this
   have V:Hid (_=_):=FU S P first par k A
   have X:Hid (k<(nL S P first par k).length):=by show _<_;rw[pT];exact A
   generalize iV S P (first+k)=a6 at*;go_wp2_with(go_at_call 152;refine U.out.mono ?_;rintro e M ⟨rfl,q⟩;have B:=Lib.hid (c.out.below q);clear q;obtain⟨a7,a8⟩:=B.out.O.2 k X.out)
   exact⟨⟨k+1,by omega,by go_num,by rw[<-V.out];exact B.out.set _ _⟩,by simp[intOf];omega⟩
  ·obtain rfl:k=par:=oO;obtain⟨c0,c1,J,K,L⟩:=mf c.out.X;have Y:Hid (Calls Tryz.prog 153 #[cD C S P,.slice (some ⟨p+1,0,none⟩) k k] wr (kS wr (zl (iN S P first k),0))):=by
    have x:=c.out.O.rd;rw[Iv]at x;have:=xR C S P ⟨some ⟨p+1,0,none⟩,k,k,zl (rk S P first k)⟩ wr f.out.vf.s7 ⟨by rw[aw,pR],by show k<=_;omega,x,Nat.le_refl _,by show k<=maxLen;unfold maxLen;omega⟩;have e:iy C S P (zl (rk S P first k))=(zl (iN S P first k),0):=by
     unfold iy iN;rw[kC f.out.vf,AL (yo f.out.vf _ _),if_pos oS,if_neg (by rw[aw,pR];omega),aw,pR,ru];simp
    show Calls _ _ _ _ _;rw[<-e];exact this
   go_wp2_with(go_at_call 153;refine Y.out.mono ?_;rintro e M ⟨v,rfl,Z,q⟩)
   go_ret2
   exact kS.mk rfl Z (ae c.out.B q)
end
section
open Fl
section
variable {K : Type} [Fl K]
def mx (r:K) (f:Nat->K):Nat->K:=λn=>sh f n-r* f n
theorem L6 {r:K} {f:Nat->K} {d:Nat} (h:cR d f):cR (d+1) (mx r f):=by
 intro i a;obtain⟨i,rfl⟩:∃k,i=k+1:=⟨i-1,by omega⟩;show f i-r* f (i+1)=0;rw[h i oO,h (i+1) oO,aW,dL]
theorem Mt (x:K) (f:Nat->K) (n:Nat):bU x (sh f) (n+1)=x* bU x f n:=by
 rw[cJ];show 0+x* bU x (cC (sh f)) n=_;rw[cA];rfl
theorem Mo {x r:K} {f:Nat->K} {d:Nat} (h:cR d f):bU x (mx r f) (d+1)=(x-r)* bU x f d:=by
 rw[show bU x (mx r f) (d+1)=bU x (λk=>sh f k-r* f k) (d+1)from rfl,Ee x (sh f) (λk=>r* f k),Mt,rq,fZ h (Nat.le_succ d),I8]
theorem Dt (r:K):cR 1 (iM r):=λi a=>by unfold iM;rw[if_neg oO]
theorem KC (x r:K):bU x (iM r) 1=r:=by
 rw[cJ];show r+x* 0=r;rw[aW,aX]
def rv (n:Nat) (g:Nat->K):Nat->K:=λj=>if j<n then g (n-1-j)else 0
theorem L1 (n:Nat) (g:Nat->K):cR n (rv n g):=λi a=>by unfold rv;rw[if_neg oO]
theorem Cy (a b:K):a+b-b=a:=by rw[iQ,iE,<-iQ,dL,aX]
end
def pe (l:List Nat) (c j:Nat):Nat:=if j=0 then c else l.getD (j-1) 0
theorem qb {l:List Nat} {i v:Nat} (a:i<l.length):(l.set i v).getD i 0=v:=by simp[List.getD,a]
theorem o4 {l:List Nat} {i j v:Nat} (h:i≠j):(l.set i v).getD j 0=l.getD j 0:=by simp[List.getD,List.getElem?_set_ne h]
theorem K2 (s p:Nat) (l:List Nat) (r c k:Nat) (g:k<=l.length) (j:Nat):
 (eL s p l r c k).getD j 0=if j<k then cN s p (pe l c j) (aF s p (l.getD j 0) r)else if j=k then pe l c j else 0:=by
 induction k generalizing j with
 |zero=>
  show((List.replicate (l.length+1) 0).set 0 c).getD j 0=_;rw[if_neg oO];by_cases h:j=0
  ·subst h;rw[if_pos rfl,qb oS];rfl
  ·rw[if_neg h,o4 oO];by_cases a:j<l.length+1
   ·simp[List.getD,a]
   ·simp[List.getD,a]
 |succ k b=>
  have b:=b oO;have f:=pt s p l r c k;show(((eL s p l r c k).set k (cN s p ((eL s p l r c k).getD k 0) (aF s p (l.getD k 0) r))).set (k+1) (l.getD k 0)).getD j 0=_;by_cases d:j=k+1
  ·subst d;rw[qb (by rw[List.length_set,f];omega),if_neg oO,if_pos rfl];rfl
  ·rw[o4 (Ne.symm d)];by_cases a:j=k
   ·subst a;rw[qb (by rw[f];omega),if_pos oO,b j,if_neg oO,if_pos rfl]
   ·rw[o4 (Ne.symm a),b j];by_cases e:j<k
    ·rw[if_pos e,if_pos oO]
    ·rw[if_neg e,if_neg a,if_neg oO,if_neg d]
theorem Mc (s p:Nat) (l:List Nat) (r c k:Nat) (a:k<l.length):(eL s p l r c (k+1)).getD (k+1) 0=l.getD k 0:=by
 show(((eL s p l r c k).set k _).set (k+1) (l.getD k 0)).getD (k+1) 0=_;rw[List.getD,List.getElem?_set_self (by rw[List.length_set,pt];omega)];rfl
theorem Hi (s p:Nat) (a:List Nat):∀k,(fromL s p a k).getD k 0=1:=by
 intro k
 induction k with
 |zero=>rfl
 |succ k b=>
  show(mE s p (fromL s p a k) (a.getD k 0) 0).getD (k+1) 0=1;unfold mE;have hl:=ou s p a k;rw[hl,Mc _ _ _ _ _ _ oO,b]
structure zS (s p par first:Nat) (data w:List Nat):Prop where
 lt:ao s w
 ln:w.length=data.length+par
 pre:∀i,i<data.length->w.getD i 0=data.getD i 0
 cw:∀j,j<par->lT s p first w j=0
noncomputable def dG (par:Nat) (data:List Nat):List Nat:=(List.range (data.length+par)).map λj=>if j<par then 0 else data.getD (data.length+par-1-j) 0
noncomputable def fB (s p par first:Nat) (data:List Nat):List Nat:=eQ s p (ej (dG par data)) (iN s p first par)
noncomputable def gL (s p par first:Nat) (data:List Nat):List Nat:=(List.range (data.length+par)).map λj=>if j<data.length then data.getD j 0 else cN s p 0 ((fB s p par first data).getD (data.length+par-1-j) 0)
theorem lU (par:Nat) (data:List Nat):(dG par data).length=data.length+par:=by unfold dG;simp
theorem qa (s p par first:Nat) (data:List Nat):(gL s p par first data).length=data.length+par:=by unfold gL;simp
section
variable {c s p : Nat} (h : VF c s p)
def vl (x:KF h) (l:List Nat):KF h:=bU x (co h l) l.length
include h
theorem MM (x:KF h) {l:List Nat} {n:Nat} (hn:l.length<=n):bU x (co h l) n=vl h x l:=fZ (fp h l) hn
theorem Jf {x:KF h} {l:List Nat} {f:Nat->KF h} (e:∀i,co h l i=f i) {n:Nat} (a:cR n f):vl h x l=bU x f n:=by
 have e1:bU x (co h l) (max n l.length)=bU x f (max n l.length):=gV λi _=>e i;rw[<-MM h x (Nat.le_max_right n l.length),e1,fZ a (Nat.le_max_left _ _)]
theorem D3 {x:Nat} (a:x<s) {l:List Nat} (hl:ao s l):aU h (hornN s p x l)=vl h (aU h x) l:=tL h a l (fW hl)
theorem LI {l:List Nat} (c j:Nat):aU h (pe l c j)=sh (co h l) j+iM (aU h c) j:=by
 unfold pe;cases j with
 |zero=>rw[if_pos rfl];show _=0+aU h c;rw[cA]
 |succ j=>rw[if_neg oO];show aU h (l.getD j 0)=co h l j+0;rw[aX];rfl
theorem KR {l:List Nat} (hl:ao s l) {r c:Nat} (d:r<s) (hc:c<s) (j:Nat):co h (mE s p l r c) j=mx (aU h r) (co h l) j+iM (aU h c) j:=by
 have f:∀j,pe l c j<s:=λj=>by
  unfold pe;split
  ·exact hc
  ·exact hl _
 have e:mx (aU h r) (co h l) j+iM (aU h c) j=aU h (pe l c j)-aU h r* co h l j:=by
  rw[LI];show sh (co h l) j-_+_=_;simp only[iQ]
  ac_rfl
 rw[e];show aU h ((mE s p l r c).getD j 0)=_;unfold mE;rw[K2 _ _ _ _ _ _ (Nat.le_refl _)];by_cases a:j<l.length
 ·rw[if_pos a,qg h (f j) (bN h _ _),gh h (hl j) d,cd];rfl
 ·rw[if_neg a,fp h l j oO,aW,fG];by_cases b:j=l.length
  ·rw[if_pos b]
  ·rw[if_neg b,bT];unfold pe;rw[if_neg oO,lk oO,bT]
theorem Le {l:List Nat} (hl:ao s l) {r c:Nat} (a:r<s) (hc:c<s) (x:KF h):vl h x (mE s p l r c)=(x-aU h r)* vl h x l+aU h c:=by
 rw[Jf h (KR h hl a hc) (n:=l.length+1) (λi b=>by
  show mx (aU h r) (co h l) i+iM (aU h c) i=0
  rw[L6 (fp h l) i b,Dt (aU h c) i oO,aX])]
 rw[nX,Mo (fp h l),fZ (Dt (aU h c)) oO,KC];rfl
theorem zI {a:List Nat} (b:ao s a) (k:Nat) (x:KF h):vl h x (fromL s p a (k+1))=(x-aU h (a.getD k 0))* vl h x (fromL s p a k):=by
 show vl h x (mE s p (fromL s p a k) (a.getD k 0) 0)=_;rw[Le h (oF h b k) (b k) (by have:=h.aR;omega),bT,aX]
theorem zM (a:List Nat) (x:KF h):vl h x (fromL s p a 0)=1:=by
 show bU x (co h [1]) 1=1;rw[cJ];show aU h 1+x* 0=1;rw[lr,aW,aX]
theorem Hq {a:List Nat} (b:ao s a) {x:Nat} (f:x<s):∀k,hornN s p x (fromL s p a k)=0↔∃i,i<k/\a.getD i 0=x:=by
 have e:∀k,hornN s p x (fromL s p a k)=0↔vl h (aU h x) (fromL s p a k)=0:=λk=>by
  rw[<-D3 h f (oF h b k)];constructor
  ·intro e;rw[e,bT]
  ·intro e;rw[<-bT h]at e;exact jJ h (j9 h x _ (fW (oF h b k))) (by have:=h.aR;omega) e
 intro k;rw[e]
 induction k with
 |zero=>
  rw[zM];constructor
  ·intro e1;exact absurd e1 (λe2=>by
    rw[<-lr h,<-bT h]at e2;have:=jJ h (by have:=h.aR;omega) (by have:=h.aR;omega) e2
    omega)
  ·rintro⟨i,g,_⟩;omega
 |succ k j=>
  rw[zI h b];constructor
  ·intro e1;rcases yj e1 with e2|e2
   ·rw[jb]at e2;exact⟨k,by omega,(jJ h f (b k) e2).symm⟩
   ·obtain⟨i,g,d⟩:=j.1 e2;exact⟨i,by omega,d⟩
  ·rintro⟨i,g,d⟩;by_cases l:i=k
   ·subst l;rw[d,dL,bV]
   ·rw[j.2 ⟨i,by omega,d⟩,aW]
theorem Dm {x:Nat} (b:x<s) {w:List Nat} (a:ao s w):∀k,aU h (tm s p x w k)=bU (aU h x) (rv k (co h w)) k
 |0=>bT h
 |k+1=>by
  show aU h (bQ s p (aF s p (tm s p x w k) x) (w.getD k 0))=rv (k+1) (co h w) 0+aU h x* bU (aU h x) (cC (rv (k+1) (co h w))) k;have e1:rv (k+1) (co h w) 0=co h w k:=by unfold rv;rw[if_pos oO];rfl
  have e2:bU (aU h x) (cC (rv (k+1) (co h w))) k=bU (aU h x) (rv k (co h w)) k:=gV λi d=>by
   show rv (k+1) (co h w) (i+1)=_;unfold rv;rw[if_pos oO,if_pos d,show k+1-1-(i+1)=k-1-i from by omega]
  rw[nY h (bN h _ _) (a k),gh h (xi h a k) b,Dm b a k,e1,e2,fe,cd];rfl
theorem tV (first par:Nat):ao s (iN s p first par):=oF h (yo h first par) par
omit h in
theorem fP (first par:Nat):(iN s p first par).length=par+1:=ou _ _ _ _
omit h in
theorem yn (first par:Nat):(iN s p first par).getD par 0=1:=Hi _ _ _ _
theorem Ka (first par:Nat) {j:Nat} (b:j<par):bU (aU h (iV s p (first+j))) (co h (iN s p first par)) (par+1)=0:=by
 have d:hornN s p (iV s p (first+j)) (iN s p first par)=0:=(Hq h (yo h first par) (je h _) par).2 ⟨j,b,by unfold rk;exact bw _ _ _ b⟩;have a:=D3 h (je h (first+j)) (tV h first par);rw[d,bT]at a;unfold vl at a;rw[fP]at a;exact a.symm
theorem mP {par:Nat} {data:List Nat} (a:ao s data):ao s (dG par data):=gT h λi _=>by
 split
 ·have:=h.aR;omega
 ·exact a _
theorem q8 {par first:Nat} {data:List Nat} (a:ao s data):ao s (fB s p par first data):=xk h (jB (mP h a))
theorem kk {par first:Nat} {data:List Nat} (d:ao s data):(fB s p par first data).length<=par:=by
 have:=xG h (a:=ej (dG par data)) (b:=iN s p first par) (jB (mP h d)) (tV h first par) (by rw[fP];omega) (by rw[fP,Nat.add_sub_cancel,yn];omega);rw[fP]at this;unfold fB;omega
theorem xF {par first:Nat} {data:List Nat} (a:ao s data):ao s (gL s p par first data):=gT h λi _=>by
 split
 ·exact a _
 ·exact og h (by have:=h.aR;omega) (q8 h a _)
theorem ug {par first:Nat} {data:List Nat} (d:ao s data):zS s p par first data (gL s p par first data):=by
 refine⟨xF h d,qa _ _ _ _ _,λi f=>?_,λj n=>?_⟩
 ·unfold gL;rw[bw _ _ _ oO,if_pos f]
 ·have o:=je h (first+j);rw[<-uT h (xE h (xF h d) j)];unfold lT;rw[Dm h o (xF h d),qa];have r:(iN s p first par).getD ((iN s p first par).length-1) 0≠0:=by rw[fP,Nat.add_sub_cancel,yn];omega
  have e:∀t,rv (data.length+par) (co h (gL s p par first data)) t=conv (co h (l3 s p (ej (dG par data)) (iN s p first par))) (co h (iN s p first par)) t:=by
   intro t;have l:=div_eq h (a:=ej (dG par data)) (b:=iN s p first par) (jB (mP h d)) (tV h first par) (by rw[fP];omega) t;rw[qz]at l;have e1:rv (data.length+par) (co h (gL s p par first data)) t=co h (dG par data) t-co h (fB s p par first data) t:=by
    unfold rv;by_cases g:t<data.length+par
    ·rw[if_pos g];show aU h ((gL s p par first data).getD (data.length+par-1-t) 0)=aU h ((dG par data).getD t 0)-_;unfold gL dG;rw[bw _ _ _ oO,bw _ _ _ g];by_cases k:t<par
     ·rw[if_neg oO,if_pos k,qg h (by have:=h.aR;omega) (q8 h d _),show data.length+par-1-(data.length+par-1-t)=t from by omega];rfl
     ·rw[if_pos oO,if_neg k,fp h _ t (by have:=kk h (par:=par) (first:=first) d;omega),fG]
    ·rw[if_neg g,fp h _ t (by rw[lU];omega),fp h _ t (by have:=kk h (par:=par) (first:=first) d;omega),dL]
   rw[e1,l];exact Cy _ _
  have q:cR (data.length+par) (conv (co h (l3 s p (ej (dG par data)) (iN s p first par))) (co h (iN s p first par))):=λi f=>by rw[<-e i];exact L1 _ _ i f
  rw[gV λi _=>e i,<-fZ q (m:=(data.length+par+(l3 s p (ej (dG par data)) (iN s p first par)).length)+(par+1)) oO,
   Bg ((fp h _).mono oO) ((fp h _).mono (by rw[fP];exact Nat.le_refl _)),Ka h first par n,aW]
end
end
section
open Go.RowKit
theorem Hy (W:World) (b n g:Nat) (c:Addr) (a:List Nat) (hn:n=a.length) (o:n<=b) (s:c.block<W.heap.size) (p:∀j,j<(zl a).length->W.cell? (c.add j)=some (.int .i64 ((zl a).getD j 0))):
 ∃d,(Builtin.copy_ #[64,64] 3 #[.slice (some ⟨W.heap.size,0,none⟩) b b,.slice (some c) n g]).run Tryz.prog (W.alloc (.cells (madeCells #[.int .i64 0] b) 3))= .ok (goInt n) d/\bR d W.heap.size (a++List.replicate (b-n) 0)/\Below W.heap.size W d:=by
 have e:n=((zl a).map (Value.int .i64)).length:=by rw[List.length_map,aw];exact hn
 have t:(madeCells #[Value.int .i64 0] b)=(List.replicate b (Value.int .i64 0)).toArray:=by
  apply Array.ext';rw[toList_madeCells_one]
 have m:Below W.heap.size W (W.alloc (.cells (madeCells #[.int .i64 0] b) 3)):=ax _ _;have i:(W.alloc (.cells (madeCells #[.int .i64 0] b) 3)).heap[W.heap.size]?=some (.cells (List.replicate b (Value.int .i64 0)).toArray 3 (0,0)):=by
  rw[<-t];exact heap_alloc_new W (.cells (madeCells #[Value.int .i64 0] b) 3)
 have f:=run_copy_row (P:=Tryz.prog) (W.alloc (.cells (madeCells #[.int .i64 0] b) 3)) 64 64 3 3 W.heap.size 0 b b c n g _ _ ((zl a).map (Value.int .i64)) Tryz.underlying64 F0 i (by rw[<-e];exact(Nat.min_eq_left o).symm) (λj v k=>by
  rw[List.getElem?_map]at k;obtain⟨x,l,rfl⟩:=Option.map_eq_some_iff.1 k;have q:=(List.getElem?_eq_some_iff.1 l).1;rw[m.cell (by rw[aL];exact s),p j q]
  simp[List.getD,l]) (by rw[<-e];simp;omega) (FR a)
 rw[<-e]at f;have r:(List.take 0 (List.replicate b (Value.int .i64 0)).toArray.toList++(zl a).map (Value.int .i64)++List.drop (0+n) (List.replicate b (Value.int .i64 0)).toArray.toList).toArray=dJ (a++List.replicate (b-n) 0):=by
  unfold dJ;apply congrArg;rw[List.take_zero,List.nil_append,List.map_append,Nat.zero_add,List.drop_replicate,List.map_replicate];congr 1;unfold zl;rw[List.map_map];rfl
 rw[r]at f;exact⟨_,f,bR.of_heap (setRow_heap _ _ _ _ _ _ i),m.trans (below_setRow (Below.refl _ _) (Nat.le_refl _) _)⟩
def r8 (N:Nat) (data:List Nat) (i:Nat):List Nat:=(List.range N).map λj=>if N-1-j<i then data.getD (N-1-j) 0 else 0
theorem qG (N:Nat) (data:List Nat) (i:Nat):(r8 N data i).length=N:=by unfold r8;simp
theorem IE (N:Nat) (data:List Nat):r8 N data 0=List.replicate N 0:=by
 refine cZ (by rw[qG,List.length_replicate]) λj a=>?_;rw[qG]at a;unfold r8;rw[bw _ _ _ a,if_neg oO];simp[List.getD,a]
theorem Ie (N:Nat) (data:List Nat) (i:Nat) (c:i<N):(r8 N data i).set (N-1-i) (data.getD i 0)=r8 N data (i+1):=by
 unfold r8;rw[fE _ _ _ _ oO];apply List.map_congr_left;intro j a;have a:=List.mem_range.1 a;by_cases e:j=N-1-i
 ·rw[if_pos e,if_pos oO,show N-1-j=i from by omega]
 ·rw[if_neg e];by_cases b:N-1-j<i
  ·rw[if_pos b,if_pos oO]
  ·rw[if_neg b,if_neg oO]
theorem KQ (par:Nat) (data:List Nat):r8 (data.length+par) data data.length=dG par data:=by
 unfold r8 dG;apply List.map_congr_left;intro j a;have a:=List.mem_range.1 a;by_cases b:j<par
 ·rw[if_pos b,if_neg oO]
 ·rw[if_neg b,if_pos oO]
noncomputable def oC (s p N:Nat) (data a:List Nat) (i:Nat):List Nat:=(List.range N).map λj=>if N-1-j<i then cN s p 0 (a.getD (N-1-j) 0)else if j<data.length then data.getD j 0 else 0
theorem rO (s p N:Nat) (data a:List Nat) (i:Nat):(oC s p N data a i).length=N:=by unfold oC;simp
theorem IY (s p N:Nat) (data c:List Nat) (d:data.length<=N):data++List.replicate (N-data.length) 0=oC s p N data c 0:=by
 refine cZ (by rw[rO,List.length_append,List.length_replicate];omega) λj b=>?_;rw[List.length_append,List.length_replicate]at b;unfold oC;rw[bw _ _ _ oO,if_neg oO];by_cases a:j<data.length
 ·rw[if_pos a];simp[List.getD,List.getElem?_append_left a]
 ·rw[if_neg a];simp[List.getD,List.getElem?_append_right (show data.length<=j from by omega),show j-data.length<N-data.length from by omega]
theorem Ju (s p N:Nat) (data a:List Nat) (i:Nat) (d:i<N):(oC s p N data a i).set (N-1-i) (cN s p 0 (a.getD i 0))=oC s p N data a (i+1):=by
 unfold oC;rw[fE _ _ _ _ oO];apply List.map_congr_left;intro j b;have b:=List.mem_range.1 b;by_cases e:j=N-1-i
 ·rw[if_pos e,if_pos oO,show N-1-j=i from by omega]
 ·rw[if_neg e];by_cases c:N-1-j<i
  ·rw[if_pos c,if_pos oO]
  ·rw[if_neg c,if_neg (show¬N-1-j<i+1 by omega)]
theorem Li {c s p:Nat} (h:VF c s p) {par first:Nat} {data:List Nat} (e:ao s data):oC s p (data.length+par) data (fB s p par first data) (fB s p par first data).length=gL s p par first data:=by
 have hl:=kk h (par:=par) (first:=first) e;unfold oC gL;apply List.map_congr_left;intro j b;have b:=List.mem_range.1 b;by_cases a:j<data.length
 ·rw[if_pos a,if_neg oO,if_pos a]
 ·rw[if_neg a,if_neg a];by_cases d:data.length+par-1-j<(fB s p par first data).length
  ·rw[if_pos d]
  ·rw[if_neg d,lk oO];exact(jJ h (og h (by have:=h.aR;omega) (by have:=h.aR;omega)) (by have:=h.aR;omega) (by rw[qg h (by have:=h.aR;omega) (by have:=h.aR;omega),dL,bT])).symm
end
end Go.Proofs.YtmnlkganmgcpbaaGreatDoor
