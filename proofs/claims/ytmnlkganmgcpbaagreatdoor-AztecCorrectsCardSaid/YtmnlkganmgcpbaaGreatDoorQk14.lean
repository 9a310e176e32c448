import Derived.Test.YtmnlkganmgcpbaaGreatDoorQk13
set_option maxRecDepth 100000
set_option maxHeartbeats 4000000
set_option linter.unusedVariables false
set_option linter.unusedSectionVars false
set_option linter.unusedSimpArgs false
namespace Go.Proofs.YtmnlkganmgcpbaaGreatDoor
section
open Go.RowKit
theorem Me (k:DK) (a b c d:Value) (f:List Nat) (i:Nat) (w:World) (h:DS k w a b c d f) (g:i<k.n):
 Calls Tryz.prog 199 #[.pointer (some ⟨k.db,0,none⟩),.int .i64 i] w λe w'=>e= .returned (.int .i64 ((k.n-1-i:Nat):Int))/\Below w.heap.size w w':=
 (zM k a b c d f i w h g).mono λe w' ⟨j,l⟩=>⟨j,by rw[l];exact Below.refl _ _⟩
theorem sM {s p par first:Nat} {w:List Nat}:(cR s p par first w).all (·==0)=true↔∀j,j<par->l3 s p first w j=0:=by
 unfold cR;rw[List.all_map,List.all_eq_true];constructor
 ·intro h j a;simpa using h j (List.mem_range.2 a)
 ·intro h j a;simpa using h j (List.mem_range.1 a)
theorem Hf (k:DK) (G H J K:Value) (b:List Nat) (w:World) (h:DS k w G H J K b):
 Calls Tryz.prog 165 #[.pointer (some ⟨k.db,0,none⟩)] w λe w'=>e= .returned (.bool ((cR k.S k.P k.par k.first b).all (·==0)))/\Below w.heap.size w w':=by
 have L:=Lib.hid h;have M:=h.ok.vf.le;have z:=h.ok.p1;have Y:=h.ok.p2;have Z:=h.ok.f2;have ab:=h.ok.n2
 have t:Hid (∀W,af w W->(W.cell? ⟨k.db,0,none⟩=some (.int .i64 k.C)/\W.cell? ⟨k.db,1,none⟩=some (.int .i64 k.S)/\W.cell? ⟨k.db,2,none⟩=some (.slice (some ⟨k.be,0,none⟩) (k.S-1) (k.S-1))/\W.cell? ⟨k.db,3,none⟩=some (.slice (some ⟨k.bl,0,none⟩) k.S k.S))/\
  (W.cell? ⟨k.db,4,none⟩=some (.int .i64 k.C)/\W.cell? ⟨k.db,5,none⟩=some (.int .i64 k.S)/\W.cell? ⟨k.db,6,none⟩=some (.int .i64 k.P)/\W.cell? ⟨k.db,7,none⟩=some (.int .i64 k.par)/\W.cell? ⟨k.db,8,none⟩=some (.int .i64 k.first))/\
  (W.cell? ⟨k.db,9,none⟩=some (.slice (some ⟨k.wb,0,none⟩) k.n k.cw))):=by
  show∀W,_;intro W N;obtain⟨g,O,⟨P,ad,al⟩,am⟩:=(L.out.below N).cells;exact⟨g,O,P⟩
 have n:Hid (Calls Tryz.prog 197 #[fs k.C k.S k.be k.bl,dw k.C k.S k.P k.par k.first,.slice (some ⟨k.wb,0,none⟩) k.n k.cw] w.drew λe w'=>∃v,e= .returned v/\aA w' v (zl (cR k.S k.P k.par k.first b))/\Below w.drew.heap.size w.drew w'):=
  zL k.C k.S k.P k.be k.bl k.par k.first b _ k.n k.cw w.drew h.ok.vf h.lt h.hw oO z oO oO h.drew.T h.drew.KS
 have a1:k.par<=4094:=oO;obtain⟨a,o⟩:∃a,a=cR k.S k.P k.par k.first b:=⟨_,rfl⟩;have f:Hid (a.length=k.par):=by show _=_;rw[o];unfold cR;simp
 rw[<-o]at n⊢;clear h z Y Z ab M o;go_enter Tryz.func165,Tryz.ntmps165;go_wp2;refine yO (af w) [1,2,3,4,5,6,7,8,9,10,11,12,15,0,13,0,14] (ai (Below.refl _ _)) ?_
 repeat refine zO t.out ?_
 refine zZ ?_;refine n.out.mono ?_;rintro e Q ⟨v1,rfl,B,C⟩;obtain⟨A,c,rfl,-,-,u⟩:=aA.nat B;rw[f.out];have p:Hid (af w Q):=(ai (Below.refl _ _)).trans C;have S:=Lib.hid u;clear B C u n;refine⟨_,rfl,p.out,jO ?_⟩
 repeat refine zO t.out ?_
 refine ag ?_;go_wp2;go_loop [19] (λl=>∃i:Nat,i<=k.par/\l= .int .i64 i/\Hid (∀j,j<i->a.getD j 0=0)) (λl=>k.par-(intOf l).toNat)
 case atStart=>exact⟨0,Nat.zero_le _,rfl,λj m=>by omega⟩
 case round=>
  obtain⟨i,ap,rfl,y⟩:=hrel;by_cases D:i<k.par
  ·obtain⟨av,rfl,a2,E⟩:=S.out (by rw[aw,f.out];omega);have T:=E i (by rw[aw,f.out];exact D);rw[cT]at T;have s:Hid (a.getD i 0≠0->a.all (·==0)=false):=by
    show _->_;intro e;exact all_false (d:=0) (by rw[f.out];exact D) (by simpa using e)
   have q:Hid (a.getD i 0=0->∀j,j<i+1->a.getD j 0=0):=by
    show _->_;intro e j m;rcases Nat.lt_or_ge j i with g|g
    ·exact y.out j g
    ·obtain rfl:j=i:=oO;exact e
   clear E;generalize a.getD i 0=x at*;by_cases r:x=0
   ·subst r;have ac:=Lib.hid (q.out rfl);clear s q;go_wp2;exact⟨⟨i+1,by omega,by go_num,ac.out⟩,by simp[intOf];omega⟩
   ·have U:=Lib.hid (s.out r);have V:((x:Int)==0)=false:=by rw[beq_eq_false_iff_ne];omega
    have a0:((x:Int)!=0)=true:=by rw[bne,V];rfl
    clear s q r;go_wp2;go_ret;exact⟨by rw[U.out];rfl,p.out⟩
  ·have F:i=k.par:=oO;have X:Hid (a.all (·==0)=true):=all_true (d:=0) λj m=>by
    have:=y.out j (by rw[F,<-f.out];exact m);simpa using this
   subst F;go_wp2;go_ret;exact⟨by rw[X.out];rfl,p.out⟩
section
variable {c s p : Nat} (h : VF c s p)
include h
theorem LU (n:Nat):il n (1:KF h)=aS h (n%c):=by
 obtain⟨hc,f⟩:=h.yu
 induction n with
 |zero=>rw[Nat.zero_mod,bQ];rfl
 |succ n a=>
  show il n (1:KF h)+1=_;rw[a,<-lK h,<-oy h (Nat.lt_of_lt_of_le (Nat.mod_lt _ oO) f) oO];congr 1;rcases h with⟨rfl,rfl,g,_,_⟩|⟨d,i,_,hb,rfl,rfl,_⟩
  ·unfold bN;rw[if_pos rfl,Nat.mod_add_mod]
  ·have b:p≠0:=by
    intro e;subst e;have:bl 0=0:=by decide
    omega
   unfold bN;rw[if_neg b];rcases Nat.mod_two_eq_zero_or_one n with e|e
   ·rw[e];show 0^^^1=_;rw[show(n+1)%2=1 from by omega];rfl
   ·rw[e];show 1^^^1=_;rw[show(n+1)%2=0 from by omega];rfl
theorem MB {a:List Nat} (d:ao s a) (i:Nat):co h (lL s p c a (a.length-1)) i=j4 (co h a) i:=by
 obtain⟨hc,e⟩:=h.yu;unfold lL;rw[tH];show _=il (i+1) (co h a (i+1));by_cases b:i<a.length-1
 ·rw[if_pos b,gf h (Nat.lt_of_lt_of_le (Nat.mod_lt _ oO) e) (d _),<-LU h,<-D9,dZ];rfl
 ·rw[if_neg b,ft h a (i+1) oO,vF]
theorem GM (a:List Nat) (k:Nat):ao s (lL s p c a k):=gR h λi _=>bL h _ _
theorem I2 {par:Nat} {a q:List Nat} (hs:ao s a) (d:a.length=par) (hq:ao s q):MP h par a q (fJ s p a q par a.length 0) (lL s p c q (q.length-1)):=
 ⟨tB h _ _ _ _ _,jD _ _ _ _ _ _ _,λj b=>by rw[BW h hs hq b,js],GM h _ _,q6 _ _ _ _ _,λj=>MB h hq j⟩
end
theorem H7 {s p:Nat} {w P:List Nat} {f:Nat->Nat} {a:Nat} (o:P.Nodup) (i:a<P.length) (n:P.getD a 0<w.length):
 (je s p w (P.take a) f).set (P.getD a 0) (bN s p ((je s p w (P.take a) f).getD (P.getD a 0) 0) (f (P.getD a 0)))=je s p w (P.take (a+1)) f:=by
 have k:P.getD a 0=P[a]:=by simp[List.getD,i]
 have q:P.getD a 0∉P.take a:=by
  rw[k];intro b;have m:=o;rw[<-List.take_append_drop a P,List.nodup_append]at m;exact m.2.2 _ b P[a] (by rw[List.drop_eq_getElem_cons i];exact List.mem_cons_self) rfl
 rw[lk n,if_neg q];refine cW (by rw[List.length_set,fh,fh]) λj d=>?_;rw[List.length_set,fh]at d;rw[lk d];have e1:∀x,x∈P.take (a+1)↔x∈P.take a\/x=P.getD a 0:=λx=>by
  rw[List.take_add_one,List.mem_append];have:P[a]?=some (P.getD a 0):=by rw[k];exact List.getElem?_eq_getElem i
  rw[this];simp
 have r:∀(l:List Nat) (x v j:Nat),j<l.length->(l.set x v).getD j 0=if j=x then v else l.getD j 0:=λl x v j d=>by
  by_cases e:j=x
  ·subst e;rw[if_pos rfl];simp[List.getD,d]
  ·rw[if_neg e];simp[List.getD,List.getElem?_set_ne (Ne.symm e)]
 rw[r _ _ _ _ (by rw[fh];exact d),lk d];by_cases g:j=P.getD a 0
 ·rw[if_pos g,if_pos ((e1 _).2 (.inr g)),<-g]
 ·rw[if_neg g];by_cases b:j∈P.take a
  ·rw[if_pos b,if_pos ((e1 _).2 (.inl b))]
  ·rw[if_neg b,if_neg (λh=>(e1 _).1 h|>.elim b g)]
theorem G4 (s p:Nat) (w:List Nat) (f:Nat->Nat):je s p w [] f=w:=by
 refine cW (fh _ _ _ _ _) λj a=>?_;rw[fh]at a;rw[lk a,if_neg oS]
theorem bH {a:Act} {b:Oper} {W:World} {x q:Operand} (d:b.op= .store 3 q x) (p:Addr) (v:Int) (hq:a.eval q= .pointer (some p)) (e:a.eval x= .int .i64 v) {u:Value} (hc:W.cell? p=some u) (f:W.frozen? p=false):
 (execOp a.eval b).run Tryz.prog W= .ok .skip (W.setCell p (.int .i64 v)):=by
 unfold execOp;simp only[d,hq,e,Instr.storeAt,Instr.sureAddr,Sem.run_bind,Sem.run_pure,Result.andThen_ok];go_simp
def II (k:DK) (d e f g:Value) (j P ev sl:List Nat) (w':World) (b:Bool):Prop:=
 b=decide (∀i,i∈P->jU k.S k.P k.first k.n sl i≠0)/\∃a,DS k w' d e f g a/\(b=true->a=je k.S k.P j P (ig k.S k.P k.first k.n ev sl))
theorem RD.word {k:DK} {wr:World} {A:Option Addr} {xs:List Int} (h:RD wr A xs) (b:∀a,A=some a->a.block≠k.wb) (i:Nat) (u:Value):RD (wr.setCell ⟨k.wb,i,none⟩ u) A xs:=λhn=>by
 obtain⟨a,e,hl,hc⟩:=h hn;refine⟨a,e,by simpa using hl,λj d=>?_⟩
 rw[World.cell?_setCell_other wr _ _ _ (λe2=>b a e (by
  have:=congrArg Addr.block e2;rw[aJ]at this
  exact this.symm))]
 exact hc j d
theorem Dz (k:DK) (a3 a4 a5 al:Value) (t q P:List Nat) (w:World) (h:DS k w a3 a4 a5 al t) (M:aA w a3 (zl (cR k.S k.P k.par k.first t))) (V:aA w a4 (zl [1])) (N:aA w a5 (zl q)) (a6:aA w al (zl P))
 (e9:∀A n c r,al= .slice A n c->A=some r->r.block≠k.wb) (hq:ao k.S q) (j2:1<=q.length) (kc:q.length<=4096) (ci:P.Nodup) (cb:∀i,i∈P->i<k.n):
 Calls Tryz.prog 164 #[.pointer (some ⟨k.db,0,none⟩)] w λe w'=>∃b,e= .returned (.bool b)/\II k a3 a4 a5 al t P (fJ k.S k.P (cR k.S k.P k.par k.first t) q k.par k.par 0) (lL k.S k.P k.C q (q.length-1)) w' b:=by
 have d:=h.ok.vf;have i5:=d.le;have kd:=d.aP;have gi:=h.ok.p1;have ks:=h.ok.p2;have ck:=h.ok.f2;have kw:=h.ok.n2;obtain⟨X,bs⟩:∃X,X=cR k.S k.P k.par k.first t:=⟨_,rfl⟩;have av:X.length=k.par:=by rw[bs];unfold cR;simp
 have dE:ao k.S X:=by rw[bs];exact yH d h.lt
 rw[<-bs]at M⊢;obtain⟨ev,bt⟩:∃ev,ev=fJ k.S k.P X q k.par k.par 0:=⟨_,rfl⟩;obtain⟨sl,ca⟩:∃sl,sl=lL k.S k.P k.C q (q.length-1):=⟨_,rfl⟩;rw[<-bt,<-ca];have fb:=Lib.hid av;have bv:Hid (ao k.S ev/\ev.length=k.par):=by rw[bt];exact⟨tB d _ _ _ _ _,jD _ _ _ _ _ _ _⟩
 have bx:Hid (ao k.S sl/\sl.length=q.length-1):=by rw[ca];exact⟨GM d _ _,q6 _ _ _ _ _⟩
 generalize d0:II k a3 a4 a5 al t P ev sl=i6;have d1:=Lib.hid d0;obtain⟨a7,c1,rfl,fo,fr,c9⟩:=aA.nat M;obtain⟨a8,a9,rfl,fv,fx,da⟩:=aA.nat V;obtain⟨bb,bd,rfl,fz,f0,dd⟩:=aA.nat N;obtain⟨be,de,rfl,f1,f2,dk⟩:=aA.nat a6;obtain⟨m,E⟩:∃m,q.length=m+1:=⟨q.length-1,by omega⟩;obtain⟨F,co⟩:∃F,F=P.length:=⟨_,rfl⟩;have go:[1].length=1:=rfl;rw[av,E,<-co]at h;have am:=Lib.hid h;have K:=Lib.hid co;have ap:=Lib.hid E;have kz:m<=4095:=oO;have lx:F<=4096:=by
  have:=length_le_of_subset (m:=List.range k.n) ci (λi O=>List.mem_range.2 (cb i O));rw[List.length_range]at this;omega
 have Y:Hid (∀W,af w W->(W.cell? ⟨k.db,0,none⟩=some (.int .i64 k.C)/\W.cell? ⟨k.db,1,none⟩=some (.int .i64 k.S)/\W.cell? ⟨k.db,2,none⟩=some (.slice (some ⟨k.be,0,none⟩) (k.S-1) (k.S-1))/\W.cell? ⟨k.db,3,none⟩=some (.slice (some ⟨k.bl,0,none⟩) k.S k.S))/\
  (W.cell? ⟨k.db,7,none⟩=some (.int .i64 k.par))/\(W.cell? ⟨k.db,12,none⟩=some (.slice a7 k.par c1)/\W.cell? ⟨k.db,13,none⟩=some (.slice a8 1 a9)/\W.cell? ⟨k.db,14,none⟩=some (.slice bb (m+1) bd))):=by
  show∀W,_;intro W a;obtain⟨M,⟨-,-,-,V,-⟩,-,⟨N,a6,f3,-⟩,-⟩:=(am.out.below a).cells;exact⟨M,V,N,a6,f3⟩
 have d2:Hid (Calls Tryz.prog 200 #[fs k.C k.S k.be k.bl,.slice a8 1 a9,.slice bb (m+1) bd,.int .i64 ((m:Int)+1)] w.drew λe w'=>∃v,e= .returned v/\aA w' v (zl q)/\Below w.drew.heap.size w.drew w'):=by
  show Calls _ _ _ _ _;have:=s5 k.C k.S k.P k.be k.bl (m+1) [1] q a8 bb 1 (m+1) a9 bd w.drew d (uq d) hq rfl E.symm oO oO oO oO h.drew.T (da.below (ai (Below.refl _ _))) (dd.below (ai (Below.refl _ _)));rw[show fJ k.S k.P [1] q (m+1) [1].length 0=q from Mr d hq E]at this;exact this
 have d3:Hid (∀W B C,af w W->RD W B (zl q)->Calls Tryz.prog 200 #[fs k.C k.S k.be k.bl,.slice a7 k.par c1,.slice B (m+1) C,.int .i64 k.par] W λe w'=>∃v,e= .returned v/\(aA w' v (zl ev)/\Below W.heap.size W w')/\wT W v):=by
  show∀W B C,_;intro W B C a hB;have:=sI k.C k.S k.P k.be k.bl k.par X q a7 B k.par (m+1) c1 C W d dE hq av.symm E.symm oO oO gi oO (h.below a).T (c9.below a) hB;rw[av,<-bt]at this;exact this
 have d4:Hid (∀W B C,af w W->RD W B (zl q)->Calls Tryz.prog 203 #[fs k.C k.S k.be k.bl,.slice B (m+1) C] W λe w'=>∃v,e= .returned v/\(aA w' v (zl sl)/\Below W.heap.size W w')/\wT W v):=by
  show∀W B C,_;intro W B C a hB;have:=F4 k.C k.S k.P k.be k.bl q B (m+1) C W d hq E.symm oO oO (h.below a).T hB;rw[Nat.add_sub_cancel]at this;rw[ca,E,Nat.add_sub_cancel];exact this
 have gp:IntKind.i64.wrap ((1:Int)+((m:Int)+1))=(m:Int)+2:=by rw[aF _ oO oO];omega
 have gq:IntKind.i64.wrap ((m:Int)+2-1)=(m:Int)+1:=by rw[aF _ oO oO];omega
 have d5:=Lib.hid dk;have d6:Hid (k.wb<w.heap.size):=Nat.lt_of_lt_of_le h.ok.m.2.2.1 h.sz;have g8:Hid (∀r,be=some r->r.block≠k.wb):=λr e=>e9 be P.length de r rfl e;have gs:Hid (∀i,i∈P->i<k.n):=cb;have gt:=Lib.hid ci;have gv:Hid (∀i,i∈P->jU k.S k.P k.first k.n sl i=0->decide (∀i,i∈P->jU k.S k.P k.first k.n sl i≠0)=false):=λi O f4=>decide_eq_false (λg9=>g9 i O f4);have i7:=Lib.hid hq;clear h M V N a6 fo fr c9 fv fx da fz f0 dd f1 f2 dk e9 cb ci E co d0 bt ca dE av bs hq go;go_enter Tryz.func164,Tryz.ntmps164;go_wp2;refine yO (af w) [1,2,3,4,5,6,7,8,9,10,11,12,13,14,15,16,17,18,19,20,21,22,23,24,0,25,0,26] (ai (Below.refl _ _)) ?_
 repeat refine zO Y.out ?_
 refine zZ ?_;refine d2.out.mono ?_;rintro e dl ⟨v1,rfl,d7,l⟩;obtain⟨dn,dp,rfl,-,-,d8⟩:=aA.nat d7;rw[ap.out];have ac:Hid (af w dl):=(ai (Below.refl _ _)).trans l;have cp:=Lib.hid d8;clear d7 l d8 d2 gp gq;refine⟨_,rfl,ac.out,jO ?_⟩
 repeat refine zO Y.out ?_
 refine ag ?_;go_wp2;refine yO (af w) [1,2,3,4,5,6,7,8,9,10,11,12,13,14,0,15,0,16] (ai ac.out) ?_
 repeat refine zO Y.out ?_
 refine zZ ?_;refine(d3.out _ dn dp (ai ac.out) (cp.out.below (ai (Below.refl _ _)))).mono ?_;rintro e bf ⟨i8,rfl,⟨d9,ea⟩,ck⟩;obtain⟨bi,ds,rfl,-,-,ec⟩:=aA.nat d9;rw[bv.out.2];have c6:Hid (af dl bf):=(ai (Below.refl _ _)).trans ea;have a0:Hid (af w bf):=ae ac.out c6.out;have ed:=Lib.hid ec;have gw:Hid (∀r,bi=some r->r.block≠k.wb):=ck.ne (Nat.lt_of_lt_of_le d6.out (ai ac.out).size);clear ck;have fc:=Lib.hid (cp.out.below c6.out);clear d9 ea ec d3 cp ac;refine⟨_,rfl,a0.out,jO ?_⟩
 repeat refine zO Y.out ?_
 refine ag ?_;obtain⟨f5,f6,f7,f8⟩:=(Y.out bf a0.out).1;go_wp2_with(go_at_call 203;refine(d4.out bf dn dp a0.out fc.out).mono ?_;rintro e f9 ⟨i9,rfl,⟨ef,cq⟩,eh⟩;obtain⟨bo,dv,rfl,-,-,ei⟩:=aA.nat ef;rw[bx.out.2,ap.out,Nat.add_sub_cancel];have cs:Hid (af w f9):=ae a0.out cq;have ek:=Lib.hid ei;have gx:Hid (∀r,bo=some r->r.block≠k.wb):=eh.ne (Nat.lt_of_lt_of_le d6.out a0.out.size);clear eh;have fd:=Lib.hid (ed.out.below cq);have gy:=(am.out.below cs.out).cells.2.2.2.1.2.2.2;clear ef cq ei)
 have el:=Lib.hid (am.out.below cs.out);have fe:=Lib.hid (d5.out.below cs.out);obtain⟨n,hn⟩:∃n,n=k.n:=⟨_,rfl⟩;have Q:=Lib.hid hn;obtain⟨L,dx⟩:∃L,L=k.S-1:=⟨_,rfl⟩;have gb:=Lib.hid dx;have k1:IntKind.i64.wrap ((k.S:Int)-1)=(L:Int):=by rw[aF _ oO oO];omega
 have k2:n<=L:=oO;have la:L<=4095:=oO;obtain⟨bq,gz⟩:∃bq,bq=k.first+k.S:=⟨_,rfl⟩;obtain⟨T,em⟩:∃T,T=k.first+k.S-2:=⟨_,rfl⟩;have gC:=Lib.hid em;have lc:IntKind.i64.wrap ((k.first:Int)+(k.S:Int))=(bq:Int):=by rw[aF _ oO oO];omega
 have li:IntKind.i64.wrap ((bq:Int)-2)=(T:Int):=by rw[aF _ oO oO];omega
 have ib:T<=8190:=oO;have en:Hid (t.length=n):=by show _=_;rw[<-am.out.hw,hn]
 clear hn dx gz em ed fc d5 f5 f6 f7 f8 gy c6 d4 Y am;go_loopw [62] (λce wr=>∃f:Nat,f<=F/\ce= .int .i64 f/\Hid (DS k wr (.slice a7 k.par c1) (.slice a8 1 a9) (.slice bb (m+1) bd) (.slice be F de) (je k.S k.P t (P.take f) (ig k.S k.P k.first n ev sl)))/\Hid (∀i,i∈P.take f->jU k.S k.P k.first n sl i≠0)/\Hid (RD wr be (zl P))/\Hid (RD wr bi (zl ev))/\Hid (RD wr bo (zl sl))) (λce _=>F-(intOf ce).toNat)
 case atStart=>exact⟨0,Nat.zero_le _,rfl,by rw[List.take_zero,G4];exact el.out,λi O=>by simp at O,fe.out,fd.out,ek.out⟩
 case round=>
  clear el fe fd ek;obtain⟨f,jp,rfl,g,cv,cx,cN,c2⟩:=hrel;by_cases bz:f<F
  ·obtain⟨i,ad⟩:∃i,i=P.getD f 0:=⟨_,rfl⟩;have c7:i∈P:=by
    rw[ad];have hl:f<P.length:=by rw[<-K.out];exact bz
    rw[show P.getD f 0=P[f]from by simp[List.getD,hl]];exact List.getElem_mem hl
   have c3:i<n:=by rw[Q.out];exact gs.out i c7
   have ih:=Lib.hid c7;obtain⟨cl,b1⟩:∃cl,cl=je k.S k.P t (P.take f) (ig k.S k.P k.first n ev sl):=⟨_,rfl⟩;have fn:Hid (cl.set i (bN k.S k.P (cl.getD i 0) (ig k.S k.P k.first n ev sl i))=je k.S k.P t (P.take (f+1)) (ig k.S k.P k.first n ev sl)):=by
    show _=_;rw[b1,ad];exact H7 gt.out (by rw[<-K.out];exact bz) (by rw[en.out,<-ad];exact c3)
   have ii:Hid (cl.length=n):=by show _=_;rw[b1,fh,en.out]
   rw[<-b1]at g;obtain⟨u,ch⟩:∃u,u=cl.getD i 0:=⟨_,rfl⟩;have dy:Hid (u<k.S):=by show _<_;rw[ch];exact g.out.lt i
   have b2:=g.out.W.2 i (by rw[ii.out];exact c3);rw[<-ch]at b2 fn;obtain⟨D,b3⟩:∃D,D=n-1-i:=⟨_,rfl⟩;obtain⟨x,eq⟩:∃x,x=L-D:=⟨_,rfl⟩;have ll:IntKind.i64.wrap ((L:Int)-(D:Int))=(x:Int):=by rw[aF _ oO oO];omega
   have gD:x<=100000000:=oO;have io:D<=4095:=oO;have c8:Hid (∀W,af wr W->Calls Tryz.prog 199 #[.pointer (some ⟨k.db,0,none⟩),.int .i64 i] W λe w'=>e= .returned (.int .i64 (D:Int))/\Below W.heap.size W w'):=by
    show∀W,_;intro W a;have:=Me k _ _ _ _ _ i W (g.out.below a) (by rw[<-Q.out];exact c3);rw[<-Q.out,<-b3]at this;exact this
   obtain⟨y,a1⟩:∃y,y=ik k.S k.P n i:=⟨_,rfl⟩;have er:iV k.S k.P x=y:=by rw[a1,eq,b3,gb.out];rfl
   have es:Hid (y<k.S):=by show _<_;rw[a1];exact jd d _
   have et:Hid (∀W,af wr W->Calls Tryz.prog 152 #[fs k.C k.S k.be k.bl,.int .i64 (x:Int)] W λe w'=>e= .returned (.int .i64 (y:Int))/\Below W.heap.size W w'):=by
    show∀W,_;intro W a;have:=lP k.C k.S k.P k.be k.bl x W d gD (g.out.below a).T;rw[er]at this;exact this
   obtain⟨G,b4⟩:∃G,G=D* T:=⟨_,rfl⟩;have ip:G<=100000000:=by
    rw[b4];have:=Nat.mul_le_mul io ib;omega
   have lm:IntKind.i64.wrap ((D:Int)* (T:Int))=(G:Int):=by
    have e:(D:Int)* (T:Int)=(G:Int):=by rw[b4];simp
    rw[e];exact aF _ oO oO
   obtain⟨Z,b5⟩:∃Z,Z=iV k.S k.P G:=⟨_,rfl⟩;have gN:Hid (Z<k.S):=by show _<_;rw[b5];exact jd d _
   have ew:Hid (∀W,af wr W->Calls Tryz.prog 152 #[fs k.C k.S k.be k.bl,.int .i64 (G:Int)] W λe w'=>e= .returned (.int .i64 (Z:Int))/\Below W.heap.size W w'):=by
    show∀W,_;intro W a;have:=lP k.C k.S k.P k.be k.bl G W d ip (g.out.below a).T;rw[<-b5]at this;exact this
   obtain⟨ab,b6⟩:∃ab,ab=hornN k.S k.P y sl:=⟨_,rfl⟩;have it:Hid (ab<k.S):=by show _<_;rw[b6];exact j1 d _ sl (fU bx.out.1)
   have ex:Hid (∀W,af wr W->Calls Tryz.prog 202 #[fs k.C k.S k.be k.bl,.slice bo m dv,.int .i64 (y:Int)] W λe w'=>e= .returned (.int .i64 (ab:Int))/\Below W.heap.size W w'):=by
    show∀W,_;intro W a;rw[b6];exact wv k.C k.S k.P k.be k.bl y sl m (by rw[bx.out.2,ap.out,Nat.add_sub_cancel]) bo dv W d es.out bx.out.1 oO (g.out.below a).T (c2.out.below a)
   obtain⟨H,b7⟩:∃H,H=hornN k.S k.P y ev:=⟨_,rfl⟩;have g0:Hid (H<k.S):=by show _<_;rw[b7];exact j1 d _ ev (fU bv.out.1)
   have ey:Hid (∀W,af wr W->Calls Tryz.prog 202 #[fs k.C k.S k.be k.bl,.slice bi k.par ds,.int .i64 (y:Int)] W λe w'=>e= .returned (.int .i64 (H:Int))/\Below W.heap.size W w'):=by
    show∀W,_;intro W a;rw[b7];exact wv k.C k.S k.P k.be k.bl y ev k.par bv.out.2.symm bi ds W d es.out bv.out.1 oO (g.out.below a).T (cN.out.below a)
   obtain⟨z,b8⟩:∃z,z=aG k.S k.P Z ab:=⟨_,rfl⟩;have c4:Hid (jU k.S k.P k.first n sl i=z):=by
    show _=_;rw[b8,b5,b4,b3,gC.out,b6,a1];rfl
   have iv:=Lib.hid b8;have g1:Hid (z<k.S):=by show _<_;rw[b8];exact bL d _ _
   have g2:Hid (ig k.S k.P k.first n ev sl i=aG k.S k.P H (dP k.S k.P z)):=by
    show _=_;unfold ig;rw[c4.out,b7,a1]
   have o:Hid (∀W,af wr W->(W.cell? ⟨k.db,0,none⟩=some (.int .i64 k.C)/\W.cell? ⟨k.db,1,none⟩=some (.int .i64 k.S)/\W.cell? ⟨k.db,2,none⟩=some (.slice (some ⟨k.be,0,none⟩) (k.S-1) (k.S-1))/\W.cell? ⟨k.db,3,none⟩=some (.slice (some ⟨k.bl,0,none⟩) k.S k.S))/\
    W.cell? ⟨k.db,8,none⟩=some (.int .i64 k.first)/\W.cell? ⟨k.db,9,none⟩=some (.slice (some ⟨k.wb,0,none⟩) n k.cw)/\W.cell? ⟨k.wb,i,none⟩=some (.int .i64 (u:Int))/\W.frozen? ⟨k.wb,i,none⟩=false):=by
    show∀W,_;intro W a;obtain⟨M,⟨-,-,-,-,V⟩,⟨N,-,-⟩,-,-⟩:=(g.out.below a).cells;rw[<-Q.out]at N;exact⟨M,V,N,(a.cell g.out.W.1).trans b2.1,(a.frozen g.out.W.1).trans b2.2⟩
   obtain⟨ls,rfl,i4,fl⟩:=cx.out (by rw[aw,<-K.out];omega);have dz:=fl f (by rw[aw,<-K.out];exact bz);rw[cT,<-ad]at dz;have g3:=Lib.hid ad;clear fl i4 ad b1 ch b2 b3 eq a1 er b4 b5 b6 b7 b8 c7;go_wp2;clear dz;refine bY (S:=af wr) 15 oK oK (ai (Below.refl _ _)) ?_;simp only[List.take_succ_cons,List.take_zero,List.drop_succ_cons,List.drop_zero]
   repeat refine kO o.out ?_
   refine kX (λW a=>c8.out W a) ?_
   repeat refine kO o.out ?_
   refine kX (λW a=>et.out W a) ?_
   repeat refine kO o.out ?_
   refine dc ?_;intro jr l;have g4:=Lib.hid l;clear l;go_wp2;refine bY (S:=af wr) 21 oK oK (ai g4.out) ?_;simp only[List.take_succ_cons,List.take_zero,List.drop_succ_cons,List.drop_zero]
   repeat refine kO o.out ?_
   refine kX (λW a=>c8.out W a) ?_
   repeat refine kO o.out ?_
   refine kX (λW a=>ew.out W a) ?_
   repeat refine kO o.out ?_
   refine dc ?_;intro jv l;have g5:=Lib.hid l;clear l;go_wp2;refine bY (S:=af wr) 13 oK oK (ai g5.out) ?_;simp only[List.take_succ_cons,List.take_zero,List.drop_succ_cons,List.drop_zero]
   repeat refine kO o.out ?_
   refine kX (λW a=>ex.out W a) ?_
   repeat refine kO o.out ?_
   refine kX (λW a=>k6 k.C k.S k.P k.be k.bl Z ab W d gN.out it.out (g.out.below a).T) ?_
   repeat refine kO o.out ?_
   refine dc ?_;intro j0 l;have ez:=Lib.hid l;clear l;rw[<-iv.out];clear c8 et ew ex;by_cases c5:z=0
   ·have gc:((z:Int)==0)=true:=by rw[beq_iff_eq];omega
    have g6:=Lib.hid (gv.out i ih.out (by rw[<-Q.out,c4.out];exact c5));clear ey;go_wp2;go_ret;refine⟨_,rfl,?_⟩;rw[<-d1.out];refine⟨g6.out.symm,cl,?_,λh=>by cases h⟩;rw[fb.out,ap.out,<-K.out];exact g.out.below ez.out
   ·have gc:((z:Int)==0)=false:=by rw[beq_eq_false_iff_ne];omega
    obtain⟨J,b9⟩:∃J,J=aG k.S k.P H (dP k.S k.P z):=⟨_,rfl⟩;have ix:=Lib.hid b9;have iz:Hid (J<k.S):=by show _<_;rw[b9];exact bL d _ _
    have i0:Hid (cl.set i (bN k.S k.P u J)=je k.S k.P t (P.take (f+1)) (ig k.S k.P k.first n ev sl)):=by
     show _=_;rw[<-fn.out,g2.out,b9]
    clear b9;go_wp2;refine bY (S:=af wr) 31 oK oK (ai ez.out) ?_;simp only[List.take_succ_cons,List.take_zero,List.drop_succ_cons,List.drop_zero]
    repeat refine kO o.out ?_
    refine kX (λW a=>ey.out W a) ?_
    repeat refine kO o.out ?_
    refine kX (λW a=>o9 k.C k.S k.P k.be k.bl H z W d g0.out g1.out c5 (g.out.below a).T) ?_
    repeat refine kO o.out ?_
    refine kX (λW a=>pa k.C k.S k.P k.be k.bl u (aG k.S k.P H (dP k.S k.P z)) W d dy.out (bL d _ _)) ?_
    repeat refine kO o.out ?_
    refine dc ?_;intro ge l;have a2:=Lib.hid l;clear l;rw[<-ix.out];obtain⟨-,-,-,lv,lw⟩:=o.out ge a2.out;have eA:=Lib.hid ((g.out.below a2.out).word i (bN k.S k.P u J) (ki d _ _ dy.out iz.out));have i1:=Lib.hid ((cx.out.below a2.out).word g8.out i (.int .i64 (bN k.S k.P u J:Nat)));have i2:=Lib.hid ((cN.out.below a2.out).word gw.out i (.int .i64 (bN k.S k.P u J:Nat)));have i3:=Lib.hid ((c2.out.below a2.out).word gx.out i (.int .i64 (bN k.S k.P u J:Nat)));rw[i0.out]at eA;go_wp2;refine⟨⟨f+1,by omega,by go_num,eA.out,λj U=>?_,i1.out,i2.out,i3.out⟩,by simp[intOf];omega⟩;rw[List.take_add_one,List.mem_append]at U;rcases U with U|U
    ·exact cv.out j U
    ·have hl:f<P.length:=by rw[<-K.out];exact bz
     have gg:P[f]?=some i:=by rw[g3.out,List.getElem?_eq_getElem hl];simp[List.getD,hl]
     rw[gg]at U;obtain rfl:j=i:=by simpa using U
     rw[c4.out];exact c5
  ·have e0:f=F:=oO;have g7:Hid (P.take f=P):=by show _=_;rw[e0,K.out,List.take_length]
   rw[g7.out]at g cv;subst e0;clear cx cN c2;go_wp2;go_ret;refine⟨_,rfl,?_⟩;rw[<-d1.out];refine⟨(decide_eq_true (λi O=>by rw[<-Q.out];exact cv.out i O)).symm,_,?_,λ_=>by rw[<-Q.out]⟩;rw[fb.out,ap.out,<-K.out];exact g.out
def jT (s p par first:Nat) (w:List Nat) (r:Option (List Nat)):Prop:=(∀v,Fix s p par first w v->r=some v)/\∀v,r=some v->Fix s p par first w v
theorem yy {c s p:Nat} (h:VF c s p) {par first:Nat} {w q:List Nat} {L:Nat} (a:ao s w) (hn:w.length<=s-1) (hq:ao s q) (f:dA q) (g:lV h (co h (cR s p par first w)) par (co h q) L):
 jT s p par first w (tn s p par first w q (fJ s p (cR s p par first w) q par par 0) (lL s p c q (q.length-1))):=by
 have e:(cR s p par first w).length=par:=by unfold cR;simp
 have d:=I2 h (yH h (par:=par) (first:=first) a) e hq;rw[e]at d;exact⟨λv b=>IQ h a hn b hq f g d,λv b=>Fz h a b⟩
def nD (k:DK) (c:List Nat) (w':World) (b:Bool):Prop:=∃r:Option (List Nat),jT k.S k.P k.par k.first c r/\b=r.isSome/\∃d e f g a,DS k w' d e f g a/\∀v,r=some v->a=v
abbrev bk:Value:= .slice none 0 0
def E7 (k:DK) (d:VF k.C k.S k.P) (a:List Nat) (wr:World):Nat->Prop
 |0=>DS k wr bk bk bk bk a
 |1=>∃v1,DS k wr v1 bk bk bk a/\aA wr v1 (zl (cR k.S k.P k.par k.first a))
 |2=>∃v1 b,DS k wr v1 b bk bk a/\aA wr v1 (zl (cR k.S k.P k.par k.first a))/\aA wr b (zl [1])
 |3=>∃v1 b e q L,DS k wr v1 b e bk a/\aA wr v1 (zl (cR k.S k.P k.par k.first a))/\aA wr b (zl [1])/\aA wr e (zl q)/\ao k.S q/\dA q/\1<=q.length/\q.length<=k.par+1/\lV d (co d (cR k.S k.P k.par k.first a)) k.par (co d q) L/\2* (q.length-1)<=k.par
 |4=>∃v1 b e v4 q L,DS k wr v1 b e v4 a/\aA wr v1 (zl (cR k.S k.P k.par k.first a))/\aA wr b (zl [1])/\aA wr e (zl q)/\aA wr v4 (zl (iq k.S k.P k.n q))/\(∀A n c f,v4= .slice A n c->A=some f->f.block≠k.wb)/\ao k.S q/\dA q/\1<=q.length/\q.length<=k.par+1/\lV d (co d (cR k.S k.P k.par k.first a)) k.par (co d q) L/\2* (q.length-1)<=k.par/\(iq k.S k.P k.n q).length=q.length-1
 |5=>∃v1 b e v4 q L,DS k wr v1 b e v4 (je k.S k.P a (iq k.S k.P k.n q) (ig k.S k.P k.first k.n (fJ k.S k.P (cR k.S k.P k.par k.first a) q k.par k.par 0) (lL k.S k.P k.C q (q.length-1))))/\ao k.S q/\dA q/\lV d (co d (cR k.S k.P k.par k.first a)) k.par (co d q) L/\2* (q.length-1)<=k.par/\(iq k.S k.P k.n q).length=q.length-1/\∀i,i∈iq k.S k.P k.n q->jU k.S k.P k.first k.n (lL k.S k.P k.C q (q.length-1)) i≠0
 |_=>nD k a wr true
abbrev kI (db f:Nat):Value:= .func (Fn.func f) #[.pointer (some ⟨db,0,none⟩)] #[]
abbrev xI (db:Nat):List Value:=[kI db 160,kI db 161,kI db 162,kI db 163,kI db 164,kI db 165]
def DK.steps (k:DK) (a:Nat):DK:={k with M:=a+1,X:=λW=>k.X W/\aa W a (xI k.db).toArray 25}
theorem DS.steps {k:DK} {w:World} {e f j l:Value} {m:List Nat} (h:DS k w e f j l m):DS (k.steps w.heap.size) (w.alloc (.cells (xI k.db).toArray 25)) e f j l m:=by
 have b:=h.below (ax w (.cells (xI k.db).toArray 25));have a:=h.ok;obtain⟨o,p,q,r,s,t⟩:=a.m;have hs:=h.sz;refine⟨⟨a.vf,a.p1,a.p2,a.f2,a.n1,a.n2,a.NG,a.NJ,a.lo,a.e1,a.e2,a.e3,a.e4,a.e5,a.e6,a.e7,?_,?_,?_⟩,b.B,?_,b.R,b.W,b.hw,b.lt,b.T,b.E,⟨b.X,?_⟩⟩
 ·rintro wr W ⟨c,d⟩ hb n;exact⟨a.xb _ _ c (hb.mono (Nat.le_succ_of_le hs)) n,(hb.block _ (Nat.lt_succ_self _)).trans d⟩
 ·rintro wr g i u hg ⟨c,d⟩;refine⟨a.xs _ _ _ _ hg c,(heap_setCell_other wr ⟨g,i,none⟩ w.heap.size _ ?_).trans d⟩;show w.heap.size≠g;have v:g<k.M:=by rcases hg with hg|hg<;>rw[hg]<;>assumption
  omega
 ·show k.N<=w.heap.size+1/\k.db<w.heap.size+1/\k.wb<w.heap.size+1/\k.eb<w.heap.size+1/\k.be<w.heap.size+1/\k.bl<w.heap.size+1;omega
 ·show w.heap.size+1<=(w.alloc _).heap.size;exact Nat.le_of_eq oS
 ·exact aa.new _ _ _ _ rfl
theorem DS.L4 {k:DK} {a:Nat} {w:World} {b c d e:Value} {f:List Nat} (h:DS (k.steps a) w b c d e f) (g:k.Ok) (i:k.M<=a+1):DS k w b c d e f:=
 ⟨g,h.B,Nat.le_trans i h.sz,h.R,h.W,h.hw,h.lt,h.T,h.E,h.X.1⟩
theorem EW (s p n:Nat) (q:List Nat):(iq s p n q).Nodup:=List.nodup_range.filter _
theorem DH {s p n:Nat} {q:List Nat} {i:Nat} (h:i∈iq s p n q):i<n:=List.mem_range.mp (List.mem_filter.mp h).1
theorem LC (k:DK) (c d f g:Value) (a:List Nat) (w:World) (b:Bool) (h:DS k w c d f g a) (hb:(cR k.S k.P k.par k.first a).all (·==0)=b):
 Calls Tryz.prog 165 #[.pointer (some ⟨k.db,0,none⟩)] w λe w'=>e= .returned (.bool b)/\Below w.heap.size w w':=by
 subst hb;exact Hf k c d f g a w h
noncomputable abbrev Gy (k:DK) (a q:List Nat):Option (List Nat):=tn k.S k.P k.par k.first a q (fJ k.S k.P (cR k.S k.P k.par k.first a) q k.par k.par 0) (lL k.S k.P k.C q (q.length-1))
theorem qP {k:DK} (a:VF k.C k.S k.P) {b q:List Nat} {L:Nat} {w':World} {c d f g:Value} {n:List Nat} (i:DS k w' c d f g n) (j:ao k.S b) (hn:b.length<=k.S-1) (hq:ao k.S q) (l:dA q) (m:lV a (co a (cR k.S k.P k.par k.first b)) k.par (co a q) L) (e:Gy k b q=none):nD k b w' false:=
 ⟨none,by rw[<-e];exact yy a j hn hq l m,rfl,_,_,_,_,_,i,λv a=>by cases a⟩
theorem Kr {k:DK} (a:VF k.C k.S k.P) {b q:List Nat} {L:Nat} {w':World} {d f g i:Value} {c:List Nat} (j:DS k w' d f g i c) (l:ao k.S b) (hn:b.length<=k.S-1) (hq:ao k.S q) (m:dA q) (n:lV a (co a (cR k.S k.P k.par k.first b)) k.par (co a q) L) (e:Gy k b q=some c):nD k b w' true:=
 ⟨some c,by rw[<-e];exact yy a l hn hq m n,rfl,_,_,_,_,_,j,λv a=>by injection a⟩
theorem Lu (k:DK) (c:List Nat) (w:World) (h:DS k w bk bk bk bk c):
 Calls Tryz.prog 120 #[.pointer (some ⟨k.db,0,none⟩)] w λe w'=>∃b,e= .returned (.bool b)/\nD k c w' b:=by
 have s:=h.ok.vf;have N:k.n=c.length:=h.hw;have O:Hid (ao k.S c):=h.lt;have P:Hid (c.length<=k.S-1):=by show _<=_;rw[<-N];exact h.ok.n2
 have al:=Lib.hid h.ok;have a2:Hid (k.M<=w.heap.size+1):=Nat.le_succ_of_le h.sz;have a3:Hid (E7 (k.steps w.heap.size) s c (w.alloc (.cells (xI k.db).toArray 25)) 0):=h.steps;have HC:Hid (∀W X Y Z c wr,DS (k.steps w.heap.size) wr W X Y Z c->aa wr w.heap.size (xI k.db).toArray 25):=λ_ _ _ _ _ _ h=>h.X.2;have G:Hid (∀w' b,nD (k.steps w.heap.size) c w' b->nD k c w' b):=by
  show∀_ _,_;rintro w' b ⟨r,Q,D,W,X,Y,Z,am,S,a4⟩;exact⟨r,Q,D,W,X,Y,Z,am,S.L4 al.out a2.out,a4⟩
 generalize bb:nD k c=bo at G⊢;clear bb;clear h;go_enter Tryz.func120,Tryz.ntmps120;go_wp2;go_loopw [21] (λab wr=>∃j:Nat,ab= .int .i64 j/\j<=6/\Hid (E7 (k.steps w.heap.size) s c wr j)) (λab _=>6-(intOf ab).toNat)
 case atStart=>exact⟨0,rfl,by omega,a3⟩
 case round=>
  obtain⟨j,rfl,ac,J⟩:=hrel
  match j,ac,J with
  |0,_,J=>
   have d:Hid (DS (k.steps w.heap.size) wr bk bk bk bk c):=J;have hc:wr.cell? ⟨w.heap.size,0,none⟩=some (kI k.db 160):=(HC.out _ _ _ _ _ _ d.out).cell 0 _ rfl;go_wp2_with(go_at_call 160;refine(DD (k.steps w.heap.size) bk bk bk bk c _ d.out ⟨_,_,_,rfl⟩).mono ?_;rintro e E ⟨rfl,f⟩)
   exact⟨⟨1,rfl,by omega,f⟩,by simp[intOf]⟩
  |1,_,⟨v1,a,n⟩=>
   have d:=Lib.hid a;have x:=Lib.hid n;clear a n;have hc:wr.cell? ⟨w.heap.size,1,none⟩=some (kI k.db 161):=(HC.out _ _ _ _ _ _ d.out).cell 1 _ rfl;go_wp2_with(go_at_call 161;refine(Hg (k.steps w.heap.size) v1 bk bk bk c _ d.out ⟨_,_,_,rfl⟩).mono ?_;rintro e E ⟨rfl,g,Q,D,S⟩;have f:E7 (k.steps w.heap.size) s c E 2:=⟨v1,g,Q,S _ _ x.out,D⟩;clear Q D S)
   exact⟨⟨2,rfl,by omega,f⟩,by simp[intOf]⟩
  |2,_,⟨v1,g,a,n,t⟩=>
   have d:=Lib.hid a;have x:=Lib.hid n;have H:=Lib.hid t;clear a n t;have hc:wr.cell? ⟨w.heap.size,2,none⟩=some (kI k.db 162):=(HC.out _ _ _ _ _ _ d.out).cell 2 _ rfl;go_wp2_with(go_at_call 162;refine(ET (k.steps w.heap.size) v1 g bk bk c _ d.out x.out H.out ⟨_,_,_,rfl⟩).mono ?_;rintro e E ⟨b,rfl,u⟩;have f:=Lib.hid u;clear u;cases b)
   ·obtain⟨q,L,hb,hq,l,z,A,m,o,a,-,-⟩:=f.out;go_ret;refine⟨false,rfl,G.out _ _ (qP (k:=k.steps w.heap.size) s a O.out P.out hq l m (if_neg λB=>?_))⟩;exact absurd B.1 (of_decide_eq_false hb.symm)
   ·obtain⟨q,L,hb,hq,l,z,A,m,o,a,C,F⟩:=f.out;exact⟨⟨3,rfl,by omega,⟨v1,g,o,q,L,a,F _ _ x.out,F _ _ H.out,C,hq,l,z,A,m,of_decide_eq_true hb.symm⟩⟩,by simp[intOf]⟩
  |3,_,⟨v1,g,o,q,L,a,n,t,C,hq,l,z,A,m,K⟩=>
   have d:=Lib.hid a;have x:=Lib.hid n;have H:=Lib.hid t;have V:=Lib.hid C;have p:=Lib.hid hq;have y:=Lib.hid l;have v:=Lib.hid m;have a5:q.length<=k.par+1:=A;have bd:=al.out.p2;have a6:=s.le;clear a n t C hq l m;have hc:wr.cell? ⟨w.heap.size,3,none⟩=some (kI k.db 163):=(HC.out _ _ _ _ _ _ d.out).cell 3 _ rfl;go_wp2_with(go_at_call 163;refine(FR (k.steps w.heap.size) v1 g o c q _ d.out V.out p.out z oO).mono ?_;rintro e E ⟨b,rfl,u⟩;have f:=Lib.hid u;clear u;cases b)
   ·obtain⟨hb,v4,a,-⟩:=f.out;go_ret;refine⟨false,rfl,G.out _ _ (qP (k:=k.steps w.heap.size) s a O.out P.out p.out y.out v.out (if_neg λB=>?_))⟩;have:=B.2.1;rw[<-N]at this;exact absurd this (of_decide_eq_false hb.symm)
   ·obtain⟨hb,v4,a,T,U,F⟩:=f.out;exact⟨⟨4,rfl,by omega,⟨v1,g,o,v4,q,L,a,F _ _ x.out,F _ _ H.out,F _ _ V.out,T,U,p.out,y.out,z,A,v.out,K,of_decide_eq_true hb.symm⟩⟩,by simp[intOf]⟩
  |4,_,⟨v1,g,o,v4,q,L,a,n,t,C,T,U,hq,l,z,A,m,K,M⟩=>
   have d:=Lib.hid a;have x:=Lib.hid n;have H:=Lib.hid t;have V:=Lib.hid C;have be:=Lib.hid T;have p:=Lib.hid hq;have y:=Lib.hid l;have v:=Lib.hid m;have a7:=Lib.hid U;have ap:=Lib.hid M;have a5:q.length<=k.par+1:=A;have bd:=al.out.p2;have a6:=s.le;clear a n t C T U hq l m M;have hc:wr.cell? ⟨w.heap.size,4,none⟩=some (kI k.db 164):=(HC.out _ _ _ _ _ _ d.out).cell 4 _ rfl;go_wp2_with(go_at_call 164;refine(Dz (k.steps w.heap.size) v1 g o v4 c q (iq k.S k.P k.n q) _ d.out x.out H.out V.out be.out a7.out p.out z oO (EW _ _ _ _) (λi a8=>DH a8)).mono ?_;rintro e E ⟨b,rfl,u⟩;have f:=Lib.hid u;clear u;cases b)
   ·obtain⟨hb,am,a,-⟩:=f.out;go_ret;refine⟨false,rfl,G.out _ _ (qP (k:=k.steps w.heap.size) s a O.out P.out p.out y.out v.out (if_neg λB=>?_))⟩;have:=B.2.2.1;rw[<-N]at this;exact absurd this (of_decide_eq_false hb.symm)
   ·obtain⟨hb,am,a,a9⟩:=f.out;rw[a9 rfl]at a;exact⟨⟨5,rfl,by omega,⟨v1,g,o,v4,q,L,a,p.out,y.out,v.out,K,ap.out,of_decide_eq_true hb.symm⟩⟩,by simp[intOf]⟩
  |5,_,⟨v1,g,o,v4,q,L,a,hq,l,m,K,M,av⟩=>
   have d:=Lib.hid a;have p:=Lib.hid hq;have y:=Lib.hid l;have v:=Lib.hid m;have ap:=Lib.hid M;have bf:=Lib.hid av;clear a hq l m M av;generalize hb:(cR k.S k.P k.par k.first (je k.S k.P c (iq k.S k.P k.n q) (ig k.S k.P k.first k.n (fJ k.S k.P (cR k.S k.P k.par k.first c) q k.par k.par 0) (lL k.S k.P k.C q (q.length-1))))).all (·==0)=b;have ad:=Lib.hid hb;clear hb;have hc:wr.cell? ⟨w.heap.size,5,none⟩=some (kI k.db 165):=(HC.out _ _ _ _ _ _ d.out).cell 5 _ rfl;go_wp2_with(go_at_call 165;refine(LC (k.steps w.heap.size) v1 g o v4 _ _ b d.out ad.out).mono ?_;rintro e E ⟨rfl,a0⟩;have a1:=Lib.hid (d.out.below a0);clear a0;cases b)
   ·go_ret;refine⟨false,rfl,G.out _ _ (qP (k:=k.steps w.heap.size) s a1.out O.out P.out p.out y.out v.out (if_neg λB=>?_))⟩;have:=sM.mpr B.2.2.2;rw[<-N]at this;have D:=ad.out.symm.trans this;cases D
   ·refine⟨⟨6,rfl,by omega,?_⟩,by simp[intOf]⟩;refine Kr (k:=k.steps w.heap.size) s a1.out O.out P.out p.out y.out v.out ?_;show tn _ _ _ _ _ _ _ _=_;unfold tn;rw[<-N];exact if_pos ⟨K,ap.out,bf.out,sM.mp ad.out⟩
  |6,_,J=>
   have bi:Hid (nD (k.steps w.heap.size) c wr true):=J;go_wp2;go_ret;exact⟨true,rfl,G.out _ _ bi.out⟩
  |j+7,ac,_=>exact absurd ac oO
theorem Au (c s p:Int) (xs:List Int) (A:Option Addr) (q:Nat) (w:World) (v:xs.length<=9223372036854775807) (l:RD w A xs):
 Calls Tryz.prog 151 #[cu c s p,.slice A xs.length q] w λe w'=>e= .returned (.bool (gH s xs))/\Below w.heap.size w w':=by
 have r:=Lib.hid (l.alloc (.cells #[.int .i64 c,.int .i64 s,.int .i64 p] 89));clear l;generalize hn:xs.length=n at*;have a:=Lib.hid hn;clear hn;go_enter Tryz.func151,Tryz.ntmps151;go_wp2;go_loop [6,9] (λ_ i=>∃k:Nat,k<=n/\i= .int .i64 k/\Hid (∀j,j<k->0<=xs.getD j 0/\xs.getD j 0<s)) (λ_ i=>n-(intOf i).toNat)
 case atStart=>exact⟨0,Nat.zero_le _,rfl,λj t=>by omega⟩
 case round=>
  obtain⟨k,y,rfl,hid⟩:=hrel;have g:Hid (Below w.heap.size w (w.alloc (.cells #[.int .i64 c,.int .i64 s,.int .i64 p] 89))):=(Below.refl _ _).alloc (Nat.le_refl _) _;by_cases f:k<n
  ·obtain⟨z,rfl,-,o⟩:=r.out (by rw[a.out];omega);have D:=o k (by rw[a.out];exact f);clear o;generalize m:xs.getD k 0=x at*;have d:=Lib.hid m;clear m;by_cases B:x<0
   ·have b:=Lib.hid (rB (s:=s) (k:=k) (by rw[a.out];exact f) (by rw[d.out];omega));go_wp2;go_ret;exact⟨bM b.out.symm,g.out⟩
   ·by_cases C:s<=x
    ·have b:=Lib.hid (rB (s:=s) (k:=k) (by rw[a.out];exact f) (by rw[d.out];omega));go_wp2;go_ret;exact⟨bM b.out.symm,g.out⟩
    ·go_wp2;refine⟨⟨k+1,by omega,by go_num,?_⟩,by simp[intOf];omega⟩;intro j t;by_cases u:j=k
     ·subst u;rw[d.out];omega
     ·exact hid.out j oO
  ·obtain rfl:k=n:=oO;have b:=Lib.hid (yA (s:=s) (xs:=xs) (by rw[a.out];exact hid.out));go_wp2;go_ret;exact⟨bM b.out.symm,g.out⟩
structure fI (C S P par first:Nat):Prop where
 vf:VF C S P
 p1:1<=par
 p2:par<=S-2
 f2:first<=S-2
theorem fI.s3 {C S P par first:Nat} (h:fI C S P par first):3<=S/\S<=4096:=by
 have:=h.p1;have:=h.p2;have:=h.vf.le;omega
theorem yT (C S P par first:Nat) (w:World) (h:fI C S P par first):
 Calls Tryz.prog 150 #[cu C S P,.int .i64 par,.int .i64 first] w λe w'=>e= .returned (.bool true)/\Below w.heap.size w w':=by
 obtain⟨s3,d⟩:=h.s3;have f:=h.p1;have g:=h.p2;have i:=h.f2;have c:Hid (Below w.heap.size w (w.alloc (.cells #[.int .i64 C,.int .i64 S,.int .i64 P] 89))):=(Below.refl _ _).alloc (Nat.le_refl _) _;obtain⟨a,b⟩:∃a,S=a+2:=⟨S-2,by omega⟩;subst b;have e1:((a+2:Nat):Int)-2=(a:Int):=oO;clear h;go_enter Tryz.func150,Tryz.ntmps150;go_wp2;go_ret;exact⟨bM oT,c.out⟩
theorem rI (w:World) (C S P par first:Nat):Hid (∀W,af (w.alloc (kp C S P par first)) W->W.cell? ⟨w.heap.size,0,none⟩=some (.int .i64 C)/\W.cell? ⟨w.heap.size,1,none⟩=some (.int .i64 S)/\W.cell? ⟨w.heap.size,2,none⟩=some (.int .i64 P)/\W.cell? ⟨w.heap.size,3,none⟩=some (.int .i64 par)/\W.cell? ⟨w.heap.size,4,none⟩=some (.int .i64 first)):=by
 show∀W,_;intro W a;have h:ak (w.alloc (kp C S P par first)) w.heap.size (gM C S P par first):=ak.new _ _ _ _ rfl;exact mq (h.below a)
theorem qX (C S P par first:Nat) (l:List Nat) (n:Nat) (A:Option Addr) (g:Nat) (w:World) (h:fI C S P par first) (hn:n=l.length) (hl:ao S l) (x:n<=9223372036854775807) (m:RD w A (zl l)):
 Calls Tryz.prog 112 #[dw C S P par first,.slice A n g] w λe w'=>e= .returned (.bool true)/\Below w.heap.size w w':=by
 have i:=Lib.hid h;have j:=rI w C S P par first
 have v:Hid (Below w.heap.size w (w.alloc (kp C S P par first))):=(Below.refl _ _).alloc (Nat.le_refl _) _;have s:Hid (∀W,af (w.alloc (kp C S P par first)) W->Calls Tryz.prog 151 #[cu C S P,.slice A n g] W λe w'=>e= .returned (.bool true)/\Below W.heap.size W w'):=by
  show∀W,_;intro W t;have:=Au C S P (zl l) A g W (by rw[aw];omega) (m.below (v.out.mono (Nat.le_refl _)|>.trans (t.mono oS)));rw[aw,<-hn,CJ hl]at this;exact this
 obtain⟨a,b,c,d,f⟩:=j.out _ (Below.refl _ _);clear m hl hn h;go_enter Tryz.func112,Tryz.ntmps112
 go_wp2_with(first
  |(go_at_call 149;refine(jn C S P _ i.out.vf.tU).mono ?_;rintro e y ⟨rfl,o⟩;rw[kt i.out.vf];have p:=Lib.hid o;clear o a b c d f;obtain⟨a,b,c,d,f⟩:=j.out _ p.out)
  |(go_at_call 150;refine(yT C S P par first _ i.out).mono ?_;rintro e z ⟨rfl,q⟩;have k:=Lib.hid (ae p.out q);clear q a b c d f;obtain⟨a,b,c,d,f⟩:=j.out _ k.out)
  |(go_at_call 151;refine(s.out _ k.out).mono ?_;rintro e B ⟨rfl,r⟩;have u:=Lib.hid (ae k.out r);clear r))
 go_ret;exact⟨rfl,cH u.out⟩
theorem zT (C S P par first n:Nat) (w:World) (b:par<n) (c:n<S):
 Calls Tryz.prog 113 #[dw C S P par first,.int .i64 n] w λe w'=>e= .returned (.bool true)/\Below w.heap.size w w':=by
 have a:Hid (Below w.heap.size w (w.alloc (kp C S P par first))):=(Below.refl _ _).alloc (Nat.le_refl _) _;go_enter Tryz.func113,Tryz.ntmps113;go_wp2;go_ret;exact⟨rfl,a.out⟩
theorem oI (C S P par first:Nat) (w:World) (h:fI C S P par first):
 Calls Tryz.prog 111 #[cu C S P,.int .i64 par,.int .i64 first] w λe w'=>e= .returned (.tuple #[dw C S P par first,.int .i64 0])/\Below w.heap.size w w':=by
 have d:=Lib.hid h;have j:aa (w.alloc (kT C S P)) w.heap.size (ya C S P).toArray 89:=aa.new _ _ _ _ rfl;have k:aa ((w.alloc (kT C S P)).alloc (kp 0 0 0 0 0)) (w.heap.size+1) (gM 0 0 0 0 0).toArray 91:=aa.new _ _ _ _ oS;have l:Hid (∀W,af ((w.alloc (kT C S P)).alloc (kp 0 0 0 0 0)) W->aa W w.heap.size (ya C S P).toArray 89/\aa W (w.heap.size+1) (gM 0 0 0 0 0).toArray 91):=by
  show∀W,_;intro W m;exact⟨(j.below (ax _ _)).below m,k.below m⟩
 have A:Hid (Below w.heap.size w ((w.alloc (kT C S P)).alloc (kp 0 0 0 0 0))):=(ax _ _).alloc oS _;clear h j k;go_enter Tryz.func111,Tryz.ntmps111;go_wp2_with fail
 refine(jn C S P _ d.out.vf.tU).mono ?_;rintro e g ⟨rfl,o⟩;rw[kt d.out.vf];have p:=Lib.hid o;obtain⟨b,-⟩:=l.out _ p.out;have c0:g.cell? ⟨w.heap.size,0,none⟩=some (.int .i64 C):=b.cell 0 _ rfl;have c1:g.cell? ⟨w.heap.size,1,none⟩=some (.int .i64 S):=b.cell 1 _ rfl;have n:g.cell? ⟨w.heap.size,2,none⟩=some (.int .i64 P):=b.cell 2 _ rfl;clear o b;go_wp2_with fail
 refine(yT C S P par first _ d.out).mono ?_;rintro e a ⟨rfl,q⟩;have r:=Lib.hid (ae p.out q);obtain⟨b,c⟩:=l.out _ r.out;clear q c0 c1 n;have c0:a.cell? ⟨w.heap.size,0,none⟩=some (.int .i64 C):=b.cell 0 _ rfl;have c1:a.cell? ⟨w.heap.size,1,none⟩=some (.int .i64 S):=b.cell 1 _ rfl;have n:a.cell? ⟨w.heap.size,2,none⟩=some (.int .i64 P):=b.cell 2 _ rfl;have s:a.cell? ⟨w.heap.size+1,0,none⟩=some (.int .i64 0):=c.cell 0 _ rfl;have t:a.cell? ⟨w.heap.size+1,1,none⟩=some (.int .i64 0):=c.cell 1 _ rfl;have u:a.cell? ⟨w.heap.size+1,2,none⟩=some (.int .i64 0):=c.cell 2 _ rfl;have x:a.cell? ⟨w.heap.size+1,3,none⟩=some (.int .i64 0):=c.cell 3 _ rfl;have y:a.cell? ⟨w.heap.size+1,4,none⟩=some (.int .i64 0):=c.cell 4 _ rfl;have f:∀i,a.frozen? ⟨w.heap.size+1,i,none⟩=false:=λi=>frozen_of_row _ _ _ _ _ c;have B:=f 0;have D:=f 1;have E:=f 2;have F:=f 3;have G:=f 4;have z:Hid (Below w.heap.size w a):=ae A.out r.out;clear f b c;go_wp2;exact bodyPost_ret (v:= .tuple #[dw C S P par first,.int .i64 0]) (by simp[results,Tryz.results111,go_sem,s,t,u,x,y]) rfl ⟨rfl,((((z.out.setCell oS _).setCell oS _).setCell oS _).setCell oS _).setCell oS _⟩
structure GS (w:World) (b c a:Nat) (d e:List Value) (S P be bl:Nat) (l:List Nat) (wr:World):Prop where
 B:Below w.heap.size w wr
 X:ak wr b d
 Q:ak wr c e
 T:dh wr S P be bl
 O:bO wr a l
 lo:w.heap.size<=a
 n1:b≠a
 n2:c≠a
 n3:be≠a
 n4:bl≠a
theorem GS.below {w:World} {a b c:Nat} {d e:List Value} {S P f bl:Nat} {l:List Nat} {wr W:World} (h:GS w a b c d e S P f bl l wr) (hb:Below wr.heap.size wr W):GS w a b c d e S P f bl l W:=
 ⟨ae h.B hb,h.X.below hb,h.Q.below hb,h.T.below hb,h.O.below hb,h.lo,h.n1,h.n2,h.n3,h.n4⟩
theorem GS.set {w:World} {b c a:Nat} {d e:List Value} {S P f bl:Nat} {l:List Nat} {wr:World} (h:GS w b c a d e S P f bl l wr) (i v:Nat):GS w b c a d e S P f bl (l.set i v) (wr.setCell ⟨a,i,none⟩ (.int .i64 (v:Int))):=
 ⟨h.B.setCell h.lo _,h.X.other _ _ h.n1,h.Q.other _ _ h.n2,h.T.setCell _ _ h.n3 h.n4,h.O.set i v,h.lo,h.n1,h.n2,h.n3,h.n4⟩
noncomputable def nN (s p first par i:Nat):List Nat:=(List.range par).map λj=>if j<i then iV s p (first+j)else 0
theorem qn (s p first par i:Nat):(nN s p first par i).length=par:=by unfold nN;simp
theorem Ix (s p first par:Nat):nN s p first par 0=List.replicate par 0:=by
 refine cW (by rw[qn,List.length_replicate]) λj a=>?_;rw[qn]at a;unfold nN;rw[bp _ _ _ a,if_neg oO];simp[List.getD,a]
theorem Ij (s p first par i:Nat) (b:i<par):(nN s p first par i).set i (iV s p (first+i))=nN s p first par (i+1):=by
 unfold nN;rw[fB _ _ _ _ b];apply List.map_congr_left;intro j c;by_cases e:j=i
 ·subst e;rw[if_pos rfl,if_pos oO]
 ·rw[if_neg e];by_cases a:j<i
  ·rw[if_pos a,if_pos oO]
  ·rw[if_neg a,if_neg oO]
noncomputable def qZ (s p first par:Nat):List Nat:=(List.range par).map λj=>iV s p (first+j)
theorem Jb (s p first par:Nat):nN s p first par par=qZ s p first par:=by
 unfold nN qZ;apply List.map_congr_left;intro j a;rw[List.mem_range]at a;rw[if_pos a]
theorem pV (s p first par:Nat):(qZ s p first par).length=par:=by unfold qZ;simp
theorem yh {c s p:Nat} (h:VF c s p) (first par:Nat):ao s (qZ s p first par):=gR h λi _=>jd h _
noncomputable def iR (s p first par:Nat):List Nat:=fromL s p (qZ s p first par) par
theorem yD (C S P par first:Nat) (w:World) (h:fI C S P par first):
 Calls Tryz.prog 114 #[dw C S P par first] w (kY w (zl (iR S P first par),0)):=by
 obtain⟨ac,ad,a9,bb,bd⟩:=info_parts dg;have f:=Lib.hid h;obtain⟨s3,al⟩:=h.s3;have am:=h.p1;have D:=h.p2;have E:=h.f2;have r:=rI w C S P par first
 have t:ak (w.alloc (kp C S P par first)) w.heap.size (gM C S P par first):=ak.new _ _ _ _ rfl;have F:=Lib.hid t;have ab:Hid (Below w.heap.size w (w.alloc (kp C S P par first))):=(Below.refl _ _).alloc (Nat.le_refl _) _;have bf:par<=4094:=oO;have be:first<=4094:=oO
 obtain⟨g,j,l,m,n⟩:=r.out _ (Below.refl _ _);have N:=run_make_row' (P:=Tryz.prog) 64 3 (.int .i64 0) 8 Tryz.underlying64 dg rfl .i64 .i64 par oO oO;have G:Hid (∀W,Calls Tryz.prog 112 #[dw C S P par first,.slice none 0 0] W λe w'=>e= .returned (.bool true)/\Below W.heap.size W w'):=by
  show∀W,_;intro W;exact qX C S P par first [] 0 none 0 W h rfl (λi=>by simp[List.getD];omega) oO (RD.dI _ _)
 clear h t D E;go_enter Tryz.func114,Tryz.ntmps114
 go_wp2_with(first
  |(go_at_call 112;refine(G.out _).mono ?_;rintro e ap ⟨rfl,y⟩;have s:=Lib.hid y;clear y g j l m n;obtain⟨g,j,l,m,n⟩:=r.out _ s.out)
  |(go_at_call 119;refine(tT C S P _ f.out.vf).mono ?_;rintro e b ⟨a,bl,rfl,d,z,-,-⟩;have u:=Lib.hid d;have o:=Lib.hid (ae s.out z);clear z d g j l m n;obtain⟨g,j,l,m,n⟩:=r.out (b.alloc (dV C S a bl)) (ah o.out _)))
 have O:Hid (w.heap.size<b.heap.size):=by show _<_;have:=o.out.size;simp at this;omega
 have Q:Hid (GS w w.heap.size b.heap.size (b.heap.size+1) (gM C S P par first) (gV C S a bl) S P a bl (nN S P first par 0) ((b.alloc (dV C S a bl)).alloc (.cells (madeCells #[.int .i64 0] par) 3))):=by
  have av:=O.out;have d:=u.out;refine⟨ah (ah (ae ab.out o.out) _) _,((F.out.below o.out).alloc _).alloc _,(ak.new _ _ _ _ rfl).alloc _,(d.alloc _).alloc _,?_,by omega,by omega,by omega,by have:=d.1;omega,by have:=d.2.1;omega⟩;rw[Ix];exact bO.made _ _ _ _ oS
 generalize H:(b.alloc (dV C S a bl)).alloc (.cells (madeCells #[.int .i64 0] par) 3)=a0 at*;clear H g j l m n s u o;generalize T:b.heap.size=p at*;clear T;clear N;go_loopw [18] (λi wr=>∃k:Nat,k<=par/\i= .int .i64 k/\Hid (GS w w.heap.size p (p+1) (gM C S P par first) (gV C S a bl) S P a bl (nN S P first par k) wr)) (λi _=>par-(intOf i).toNat)
 case atStart=>exact⟨0,Nat.zero_le _,rfl,Q⟩
 case round=>
  obtain⟨k,a1,rfl,c⟩:=hrel;by_cases A:k<par
  ·obtain⟨a2,a3,a4,a5⟩:=dQ c.out.Q;obtain⟨c0,c1,J,K,L⟩:=mq c.out.X;have U:Hid (Calls Tryz.prog 152 #[fs C S a bl,.int .i64 ((first:Int)+(k:Int))] wr λe w'=>e= .returned (.int .i64 ((iV S P (first+k):Nat):Int))/\Below wr.heap.size wr w'):=by
    have:=lP C S P a bl (first+k) wr f.out.vf oO c.out.T;show Calls _ _ _ _ _;simpa using this
   have V:Hid (_=_):=Ij S P first par k A
   have X:Hid (k<(nN S P first par k).length):=by show _<_;rw[qn];exact A
   generalize iV S P (first+k)=a6 at*;go_wp2_with(go_at_call 152;refine U.out.mono ?_;rintro e M ⟨rfl,q⟩;have B:=Lib.hid (c.out.below q);clear q;obtain⟨a7,a8⟩:=B.out.O.2 k X.out)
   exact⟨⟨k+1,by omega,by go_num,by rw[<-V.out];exact B.out.set _ _⟩,by simp[intOf];omega⟩
  ·obtain rfl:k=par:=oO;obtain⟨c0,c1,J,K,L⟩:=mq c.out.X;have Y:Hid (Calls Tryz.prog 153 #[cu C S P,.slice (some ⟨p+1,0,none⟩) k k] wr (kY wr (zl (iR S P first k),0))):=by
    have x:=c.out.O.rd;rw[Jb]at x;have:=yE C S P ⟨some ⟨p+1,0,none⟩,k,k,zl (qZ S P first k)⟩ wr f.out.vf.tU ⟨by rw[aw,pV],by show k<=_;omega,x,Nat.le_refl _,by show k<=maxLen;unfold maxLen;omega⟩;have e:iu C S P (zl (qZ S P first k))=(zl (iR S P first k),0):=by
     unfold iu iR;rw[kt f.out.vf,CJ (yh f.out.vf _ _),if_pos oS,if_neg (by rw[aw,pV];omega),aw,pV,rU];simp
    show Calls _ _ _ _ _;rw[<-e];exact this
   go_wp2_with(go_at_call 153;refine Y.out.mono ?_;rintro e M ⟨v,rfl,Z,q⟩)
   go_ret2
   exact kY.mk rfl Z (ae c.out.B q)
end
section
open Fl
section
variable {K : Type} [Fl K]
def mx (r:K) (f:Nat->K):Nat->K:=λn=>sh f n-r* f n
theorem MA {r:K} {f:Nat->K} {d:Nat} (h:cK d f):cK (d+1) (mx r f):=by
 intro i a;obtain⟨i,rfl⟩:∃k,i=k+1:=⟨i-1,by omega⟩;show f i-r* f (i+1)=0;rw[h i oO,h (i+1) oO,aT,dG]
theorem ME (x:K) (f:Nat->K) (n:Nat):bS x (sh f) (n+1)=x* bS x f n:=by
 rw[cD];show 0+x* bS x (cr (sh f)) n=_;rw[cn];rfl
theorem M9 {x r:K} {f:Nat->K} {d:Nat} (h:cK d f):bS x (mx r f) (d+1)=(x-r)* bS x f d:=by
 rw[show bS x (mx r f) (d+1)=bS x (λk=>sh f k-r* f k) (d+1)from rfl,Ep x (sh f) (λk=>r* f k),ME,rM,ga h (Nat.le_succ d),Jy]
theorem EM (r:K):cK 1 (iM r):=λi a=>by unfold iM;rw[if_neg oO]
theorem Mj (x r:K):bS x (iM r) 1=r:=by
 rw[cD];show r+x* 0=r;rw[aT,aU]
def rv (n:Nat) (g:Nat->K):Nat->K:=λj=>if j<n then g (n-1-j)else 0
theorem MO (n:Nat) (g:Nat->K):cK n (rv n g):=λi a=>by unfold rv;rw[if_neg oO]
theorem Dn (a b:K):a+b-b=a:=by rw[iP,iE,<-iP,dG,aU]
end
def pO (l:List Nat) (c j:Nat):Nat:=if j=0 then c else l.getD (j-1) 0
theorem qh {l:List Nat} {i v:Nat} (a:i<l.length):(l.set i v).getD i 0=v:=by simp[List.getD,a]
theorem oQ {l:List Nat} {i j v:Nat} (h:i≠j):(l.set i v).getD j 0=l.getD j 0:=by simp[List.getD,List.getElem?_set_ne h]
theorem Lt (s p:Nat) (l:List Nat) (r c k:Nat) (g:k<=l.length) (j:Nat):
 (eL s p l r c k).getD j 0=if j<k then cF s p (pO l c j) (aG s p (l.getD j 0) r)else if j=k then pO l c j else 0:=by
 induction k generalizing j with
 |zero=>
  show((List.replicate (l.length+1) 0).set 0 c).getD j 0=_;rw[if_neg oO];by_cases h:j=0
  ·subst h;rw[if_pos rfl,qh oS];rfl
  ·rw[if_neg h,oQ oO];by_cases a:j<l.length+1
   ·simp[List.getD,a]
   ·simp[List.getD,a]
 |succ k b=>
  have b:=b oO;have f:=pT s p l r c k;show(((eL s p l r c k).set k (cF s p ((eL s p l r c k).getD k 0) (aG s p (l.getD k 0) r))).set (k+1) (l.getD k 0)).getD j 0=_;by_cases d:j=k+1
  ·subst d;rw[qh (by rw[List.length_set,f];omega),if_neg oO,if_pos rfl];rfl
  ·rw[oQ (Ne.symm d)];by_cases a:j=k
   ·subst a;rw[qh (by rw[f];omega),if_pos oO,b j,if_neg oO,if_pos rfl]
   ·rw[oQ (Ne.symm a),b j];by_cases e:j<k
    ·rw[if_pos e,if_pos oO]
    ·rw[if_neg e,if_neg a,if_neg oO,if_neg d]
theorem Mx (s p:Nat) (l:List Nat) (r c k:Nat) (a:k<l.length):(eL s p l r c (k+1)).getD (k+1) 0=l.getD k 0:=by
 show(((eL s p l r c k).set k _).set (k+1) (l.getD k 0)).getD (k+1) 0=_;rw[List.getD,List.getElem?_set_self (by rw[List.length_set,pT];omega)];rfl
theorem Gj (s p:Nat) (a:List Nat):∀k,(fromL s p a k).getD k 0=1:=by
 intro k
 induction k with
 |zero=>rfl
 |succ k b=>
  show(mw s p (fromL s p a k) (a.getD k 0) 0).getD (k+1) 0=1;unfold mw;have hl:=oB s p a k;rw[hl,Mx _ _ _ _ _ _ oO,b]
structure AE (s p par first:Nat) (data w:List Nat):Prop where
 lt:ao s w
 ln:w.length=data.length+par
 pre:∀i,i<data.length->w.getD i 0=data.getD i 0
 cw:∀j,j<par->l3 s p first w j=0
noncomputable def dB (par:Nat) (data:List Nat):List Nat:=(List.range (data.length+par)).map λj=>if j<par then 0 else data.getD (data.length+par-1-j) 0
noncomputable def fw (s p par first:Nat) (data:List Nat):List Nat:=eN s p (dX (dB par data)) (iR s p first par)
noncomputable def gJ (s p par first:Nat) (data:List Nat):List Nat:=(List.range (data.length+par)).map λj=>if j<data.length then data.getD j 0 else cF s p 0 ((fw s p par first data).getD (data.length+par-1-j) 0)
theorem ma (par:Nat) (data:List Nat):(dB par data).length=data.length+par:=by unfold dB;simp
theorem qg (s p par first:Nat) (data:List Nat):(gJ s p par first data).length=data.length+par:=by unfold gJ;simp
section
variable {c s p : Nat} (h : VF c s p)
def vl (x:KF h) (l:List Nat):KF h:=bS x (co h l) l.length
include h
theorem Np (x:KF h) {l:List Nat} {n:Nat} (hn:l.length<=n):bS x (co h l) n=vl h x l:=ga (ft h l) hn
theorem Kw {x:KF h} {l:List Nat} {f:Nat->KF h} (e:∀i,co h l i=f i) {n:Nat} (a:cK n f):vl h x l=bS x f n:=by
 have e1:bS x (co h l) (max n l.length)=bS x f (max n l.length):=gQ λi _=>e i;rw[<-Np h x (Nat.le_max_right n l.length),e1,ga a (Nat.le_max_left _ _)]
theorem Ed {x:Nat} (a:x<s) {l:List Nat} (hl:ao s l):aS h (hornN s p x l)=vl h (aS h x) l:=uj h a l (fU hl)
theorem LZ {l:List Nat} (c j:Nat):aS h (pO l c j)=sh (co h l) j+iM (aS h c) j:=by
 unfold pO;cases j with
 |zero=>rw[if_pos rfl];show _=0+aS h c;rw[cn]
 |succ j=>rw[if_neg oO];show aS h (l.getD j 0)=co h l j+0;rw[aU];rfl
theorem Lc {l:List Nat} (hl:ao s l) {r c:Nat} (d:r<s) (hc:c<s) (j:Nat):co h (mw s p l r c) j=mx (aS h r) (co h l) j+iM (aS h c) j:=by
 have f:∀j,pO l c j<s:=λj=>by
  unfold pO;split
  ·exact hc
  ·exact hl _
 have e:mx (aS h r) (co h l) j+iM (aS h c) j=aS h (pO l c j)-aS h r* co h l j:=by
  rw[LZ];show sh (co h l) j-_+_=_;simp only[iP]
  ac_rfl
 rw[e];show aS h ((mw s p l r c).getD j 0)=_;unfold mw;rw[Lt _ _ _ _ _ _ (Nat.le_refl _)];by_cases a:j<l.length
 ·rw[if_pos a,qK h (f j) (bL h _ _),gf h (hl j) d,bX];rfl
 ·rw[if_neg a,ft h l j oO,aT,fC];by_cases b:j=l.length
  ·rw[if_pos b]
  ·rw[if_neg b,bQ];unfold pO;rw[if_neg oO,lN oO,bQ]
theorem Lh {l:List Nat} (hl:ao s l) {r c:Nat} (a:r<s) (hc:c<s) (x:KF h):vl h x (mw s p l r c)=(x-aS h r)* vl h x l+aS h c:=by
 rw[Kw h (Lc h hl a hc) (n:=l.length+1) (λi b=>by
  show mx (aS h r) (co h l) i+iM (aS h c) i=0
  rw[MA (ft h l) i b,EM (aS h c) i oO,aU])]
 rw[oh,M9 (ft h l),ga (EM (aS h c)) oO,Mj];rfl
theorem Ar {a:List Nat} (b:ao s a) (k:Nat) (x:KF h):vl h x (fromL s p a (k+1))=(x-aS h (a.getD k 0))* vl h x (fromL s p a k):=by
 show vl h x (mw s p (fromL s p a k) (a.getD k 0) 0)=_;rw[Lh h (oE h b k) (b k) (by have:=h.aP;omega),bQ,aU]
theorem Am (a:List Nat) (x:KF h):vl h x (fromL s p a 0)=1:=by
 show bS x (co h [1]) 1=1;rw[cD];show aS h 1+x* 0=1;rw[lK,aT,aU]
theorem G8 {a:List Nat} (b:ao s a) {x:Nat} (f:x<s):∀k,hornN s p x (fromL s p a k)=0↔∃i,i<k/\a.getD i 0=x:=by
 have e:∀k,hornN s p x (fromL s p a k)=0↔vl h (aS h x) (fromL s p a k)=0:=λk=>by
  rw[<-Ed h f (oE h b k)];constructor
  ·intro e;rw[e,bQ]
  ·intro e;rw[<-bQ h]at e;exact jK h (j1 h x _ (fU (oE h b k))) (by have:=h.aP;omega) e
 intro k;rw[e]
 induction k with
 |zero=>
  rw[Am];constructor
  ·intro e1;exact absurd e1 (λe2=>by
    rw[<-lK h,<-bQ h]at e2;have:=jK h (by have:=h.aP;omega) (by have:=h.aP;omega) e2
    omega)
  ·rintro⟨i,g,_⟩;omega
 |succ k j=>
  rw[Ar h b];constructor
  ·intro e1;rcases yI e1 with e2|e2
   ·rw[iZ]at e2;exact⟨k,by omega,(jK h f (b k) e2).symm⟩
   ·obtain⟨i,g,d⟩:=j.1 e2;exact⟨i,by omega,d⟩
  ·rintro⟨i,g,d⟩;by_cases l:i=k
   ·subst l;rw[d,dG,bR]
   ·rw[j.2 ⟨i,by omega,d⟩,aT]
theorem D4 {x:Nat} (b:x<s) {w:List Nat} (a:ao s w):∀k,aS h (tQ s p x w k)=bS (aS h x) (rv k (co h w)) k
 |0=>bQ h
 |k+1=>by
  show aS h (bN s p (aG s p (tQ s p x w k) x) (w.getD k 0))=rv (k+1) (co h w) 0+aS h x* bS (aS h x) (cr (rv (k+1) (co h w))) k;have e1:rv (k+1) (co h w) 0=co h w k:=by unfold rv;rw[if_pos oO];rfl
  have e2:bS (aS h x) (cr (rv (k+1) (co h w))) k=bS (aS h x) (rv k (co h w)) k:=gQ λi d=>by
   show rv (k+1) (co h w) (i+1)=_;unfold rv;rw[if_pos oO,if_pos d,show k+1-1-(i+1)=k-1-i from by omega]
  rw[oy h (bL h _ _) (a k),gf h (xX h a k) b,D4 b a k,e1,e2,eU,bX];rfl
theorem tX (first par:Nat):ao s (iR s p first par):=oE h (yh h first par) par
omit h in
theorem fP (first par:Nat):(iR s p first par).length=par+1:=oB _ _ _ _
omit h in
theorem yz (first par:Nat):(iR s p first par).getD par 0=1:=Gj _ _ _ _
theorem I5 (first par:Nat) {j:Nat} (b:j<par):bS (aS h (iV s p (first+j))) (co h (iR s p first par)) (par+1)=0:=by
 have d:hornN s p (iV s p (first+j)) (iR s p first par)=0:=(G8 h (yh h first par) (jd h _) par).2 ⟨j,b,by unfold qZ;exact bp _ _ _ b⟩;have a:=Ed h (jd h (first+j)) (tX h first par);rw[d,bQ]at a;unfold vl at a;rw[fP]at a;exact a.symm
theorem ng {par:Nat} {data:List Nat} (a:ao s data):ao s (dB par data):=gR h λi _=>by
 split
 ·have:=h.aP;omega
 ·exact a _
theorem se {par first:Nat} {data:List Nat} (a:ao s data):ao s (fw s p par first data):=xn h (jz (ng h a))
theorem kh {par first:Nat} {data:List Nat} (d:ao s data):(fw s p par first data).length<=par:=by
 have:=x9 h (a:=dX (dB par data)) (b:=iR s p first par) (jz (ng h d)) (tX h first par) (by rw[fP];omega) (by rw[fP,Nat.add_sub_cancel,yz];omega);rw[fP]at this;unfold fw;omega
theorem x5 {par first:Nat} {data:List Nat} (a:ao s data):ao s (gJ s p par first data):=gR h λi _=>by
 split
 ·exact a _
 ·exact om h (by have:=h.aP;omega) (se h a _)
theorem uf {par first:Nat} {data:List Nat} (f:ao s data):AE s p par first data (gJ s p par first data):=by
 refine⟨x5 h f,qg _ _ _ _ _,λi g=>?_,λj o=>?_⟩
 ·unfold gJ;rw[bp _ _ _ oO,if_pos g]
 ·have q:=jd h (first+j);rw[<-vi h (yw h (x5 h f) j)];unfold l3;rw[D4 h q (x5 h f),qg];have t:(iR s p first par).getD ((iR s p first par).length-1) 0≠0:=by rw[fP,Nat.add_sub_cancel,yz];omega
  have e:∀d,rv (data.length+par) (co h (gJ s p par first data)) d=conv (co h (l8 s p (dX (dB par data)) (iR s p first par))) (co h (iR s p first par)) d:=by
   intro d;have n:=div_eq h (a:=dX (dB par data)) (b:=iR s p first par) (jz (ng h f)) (tX h first par) (by rw[fP];omega) d;rw[qI]at n;have e1:rv (data.length+par) (co h (gJ s p par first data)) d=co h (dB par data) d-co h (fw s p par first data) d:=by
    unfold rv;by_cases k:d<data.length+par
    ·rw[if_pos k];show aS h ((gJ s p par first data).getD (data.length+par-1-d) 0)=aS h ((dB par data).getD d 0)-_;unfold gJ dB;rw[bp _ _ _ oO,bp _ _ _ k];by_cases l:d<par
     ·rw[if_neg oO,if_pos l,qK h (by have:=h.aP;omega) (se h f _),show data.length+par-1-(data.length+par-1-d)=d from by omega];rfl
     ·rw[if_pos oO,if_neg l,ft h _ d (by have:=kh h (par:=par) (first:=first) f;omega),fC]
    ·rw[if_neg k,ft h _ d (by rw[ma];omega),ft h _ d (by have:=kh h (par:=par) (first:=first) f;omega),dG]
   rw[e1,n];exact Dn _ _
  have r:cK (data.length+par) (conv (co h (l8 s p (dX (dB par data)) (iR s p first par))) (co h (iR s p first par))):=λi g=>by rw[<-e i];exact MO _ _ i g
  rw[gQ λi _=>e i,<-ga r (m:=(data.length+par+(l8 s p (dX (dB par data)) (iR s p first par)).length)+(par+1)) oO,
   AX ((ft h _).mono oO) ((ft h _).mono (by rw[fP];exact Nat.le_refl _)),I5 h first par o,aT]
end
end
section
open Go.RowKit
theorem IG (W:World) (b n g:Nat) (c:Addr) (a:List Nat) (hn:n=a.length) (o:n<=b) (s:c.block<W.heap.size) (p:∀j,j<(zl a).length->W.cell? (c.add j)=some (.int .i64 ((zl a).getD j 0))):
 ∃d,(Builtin.copy_ #[64,64] 3 #[.slice (some ⟨W.heap.size,0,none⟩) b b,.slice (some c) n g]).run Tryz.prog (W.alloc (.cells (madeCells #[.int .i64 0] b) 3))= .ok (goInt n) d/\bO d W.heap.size (a++List.replicate (b-n) 0)/\Below W.heap.size W d:=by
 have e:n=((zl a).map (Value.int .i64)).length:=by rw[List.length_map,aw];exact hn
 have t:(madeCells #[Value.int .i64 0] b)=(List.replicate b (Value.int .i64 0)).toArray:=by
  apply Array.ext';rw[toList_madeCells_one]
 have m:Below W.heap.size W (W.alloc (.cells (madeCells #[.int .i64 0] b) 3)):=ax _ _;have i:(W.alloc (.cells (madeCells #[.int .i64 0] b) 3)).heap[W.heap.size]?=some (.cells (List.replicate b (Value.int .i64 0)).toArray 3 (0,0)):=by
  rw[<-t];exact heap_alloc_new W (.cells (madeCells #[Value.int .i64 0] b) 3)
 have f:=run_copy_row (P:=Tryz.prog) (W.alloc (.cells (madeCells #[.int .i64 0] b) 3)) 64 64 3 3 W.heap.size 0 b b c n g _ _ ((zl a).map (Value.int .i64)) Tryz.underlying64 IE i (by rw[<-e];exact(Nat.min_eq_left o).symm) (λj v k=>by
  rw[List.getElem?_map]at k;obtain⟨x,l,rfl⟩:=Option.map_eq_some_iff.1 k;have q:=(List.getElem?_eq_some_iff.1 l).1;rw[m.cell (by rw[aJ];exact s),p j q]
  simp[List.getD,l]) (by rw[<-e];simp;omega) (GD a)
 rw[<-e]at f;have r:(List.take 0 (List.replicate b (Value.int .i64 0)).toArray.toList++(zl a).map (Value.int .i64)++List.drop (0+n) (List.replicate b (Value.int .i64 0)).toArray.toList).toArray=dC (a++List.replicate (b-n) 0):=by
  unfold dC;apply congrArg;rw[List.take_zero,List.nil_append,List.map_append,Nat.zero_add,List.drop_replicate,List.map_replicate];congr 1;unfold zl;rw[List.map_map];rfl
 rw[r]at f;exact⟨_,f,bO.of_heap (setRow_heap _ _ _ _ _ _ i),m.trans (below_setRow (Below.refl _ _) (Nat.le_refl _) _)⟩
def sw (N:Nat) (data:List Nat) (i:Nat):List Nat:=(List.range N).map λj=>if N-1-j<i then data.getD (N-1-j) 0 else 0
theorem rk (N:Nat) (data:List Nat) (i:Nat):(sw N data i).length=N:=by unfold sw;simp
theorem KH (N:Nat) (data:List Nat):sw N data 0=List.replicate N 0:=by
 refine cW (by rw[rk,List.length_replicate]) λj a=>?_;rw[rk]at a;unfold sw;rw[bp _ _ _ a,if_neg oO];simp[List.getD,a]
theorem Jz (N:Nat) (data:List Nat) (i:Nat) (c:i<N):(sw N data i).set (N-1-i) (data.getD i 0)=sw N data (i+1):=by
 unfold sw;rw[fB _ _ _ _ oO];apply List.map_congr_left;intro j a;have a:=List.mem_range.1 a;by_cases e:j=N-1-i
 ·rw[if_pos e,if_pos oO,show N-1-j=i from by omega]
 ·rw[if_neg e];by_cases b:N-1-j<i
  ·rw[if_pos b,if_pos oO]
  ·rw[if_neg b,if_neg oO]
theorem Lf (par:Nat) (data:List Nat):sw (data.length+par) data data.length=dB par data:=by
 unfold sw dB;apply List.map_congr_left;intro j a;have a:=List.mem_range.1 a;by_cases b:j<par
 ·rw[if_pos b,if_neg oO]
 ·rw[if_neg b,if_pos oO]
noncomputable def oY (s p N:Nat) (data a:List Nat) (i:Nat):List Nat:=(List.range N).map λj=>if N-1-j<i then cF s p 0 (a.getD (N-1-j) 0)else if j<data.length then data.getD j 0 else 0
theorem qS (s p N:Nat) (data a:List Nat) (i:Nat):(oY s p N data a i).length=N:=by unfold oY;simp
theorem Ke (s p N:Nat) (data c:List Nat) (d:data.length<=N):data++List.replicate (N-data.length) 0=oY s p N data c 0:=by
 refine cW (by rw[qS,List.length_append,List.length_replicate];omega) λj b=>?_;rw[List.length_append,List.length_replicate]at b;unfold oY;rw[bp _ _ _ oO,if_neg oO];by_cases a:j<data.length
 ·rw[if_pos a];simp[List.getD,List.getElem?_append_left a]
 ·rw[if_neg a];simp[List.getD,List.getElem?_append_right (show data.length<=j from by omega),show j-data.length<N-data.length from by omega]
theorem Jd (s p N:Nat) (data a:List Nat) (i:Nat) (d:i<N):(oY s p N data a i).set (N-1-i) (cF s p 0 (a.getD i 0))=oY s p N data a (i+1):=by
 unfold oY;rw[fB _ _ _ _ oO];apply List.map_congr_left;intro j b;have b:=List.mem_range.1 b;by_cases e:j=N-1-i
 ·rw[if_pos e,if_pos oO,show N-1-j=i from by omega]
 ·rw[if_neg e];by_cases c:N-1-j<i
  ·rw[if_pos c,if_pos oO]
  ·rw[if_neg c,if_neg (show¬N-1-j<i+1 by omega)]
theorem LM {c s p:Nat} (h:VF c s p) {par first:Nat} {data:List Nat} (e:ao s data):oY s p (data.length+par) data (fw s p par first data) (fw s p par first data).length=gJ s p par first data:=by
 have hl:=kh h (par:=par) (first:=first) e;unfold oY gJ;apply List.map_congr_left;intro j b;have b:=List.mem_range.1 b;by_cases a:j<data.length
 ·rw[if_pos a,if_neg oO,if_pos a]
 ·rw[if_neg a,if_neg a];by_cases d:data.length+par-1-j<(fw s p par first data).length
  ·rw[if_pos d]
  ·rw[if_neg d,lN oO];exact(jK h (om h (by have:=h.aP;omega) (by have:=h.aP;omega)) (by have:=h.aP;omega) (by rw[qK h (by have:=h.aP;omega) (by have:=h.aP;omega),dG,bQ])).symm
end
end Go.Proofs.YtmnlkganmgcpbaaGreatDoor
