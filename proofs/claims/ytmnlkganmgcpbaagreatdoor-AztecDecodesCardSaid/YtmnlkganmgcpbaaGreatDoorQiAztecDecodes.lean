/- For every input, the law AztecDecodes of layer 28 (aztec) answers true and leaves its arguments as they were, whatever the listed tables of Go's library hold when it begins: the row and its tied card. No condition beyond the listed tables. -/
import Derived.Test.YtmnlkganmgcpbaaGreatDoorQi31
import Derived.Test.YtmnlkganmgcpbaaGreatDoorQi32
import Derived.Test.YtmnlkganmgcpbaaGreatDoorCards
set_option maxRecDepth 100000
set_option maxHeartbeats 4000000
set_option linter.unusedVariables false
set_option linter.unusedSectionVars false
set_option linter.unusedSimpArgs false
set_option linter.defProp false
open Go.Value renaming int->I
open Go.IntKind renaming i64->J
open Bool renaming false->R,true->wP
open Option renaming none->U,some->gk
open Go renaming World->wR,Calls->wS
open Go.Proofs.Tryz renaming prog->w1
open Go.RowKit renaming Hid->w2
open Go.Proofs.Tryz
namespace Go.Proofs.YtmnlkganmgcpbaaGreatDoor.aztecDecodes
section
open Go.RowKit
theorem Nl (W H:Int) (A:Option Addr) (N b:Nat) (w:wR) (i:N<=9223372036854775807) (h:1700<N):wS w1 10 #[cZ W H A N b] w (au (.bool wP) w):=by
 have c:w2 (∀W,wS w1 11 #[] W (au (.bool wP) W)):=λW=>uW W;have f:(1700:Int)<N:=oO;go_enter func10,ntmps10;go_wp2_with(go_at_call 11;refine(c.out _).mono ?_;rintro e g ⟨rfl,a⟩;have d:=aa (dT a);clear a)
 go_ret;exact⟨rfl,d.out⟩
theorem LR (W H:Int) (A:Option Addr) (N a:Nat) (b:List UInt8) (k f:Int) (w:wR) (h:¬1700<N)
 (u:w2 (∀V,af w V->wS w1 14 #[cZ W H A N a] V (dU V (b,k,f))))
 (v:w2 (∀V,af w V->wS w1 28 #[cZ W H A N a] V (dU V (b,k,f)))):
 wS w1 10 #[cZ W H A N a] w (au (.bool wP) w):=by
 have x:w2 (∀W,wS w1 11 #[] W (au (.bool wP) W)):=λW=>uW W;have E:¬(1700:Int)<N:=oO;have s:=iT w W H A N a;go_enter func10,ntmps10
 go_wp2_with(first
  |(go_at_call 14;refine(u.out _ (ax _ _)).mono ?_;rintro e g ⟨i,j,c1,rfl,o,c⟩;have p:=aa (dT c);have y:w2 (SR vU 0 g i j c1 b):=o;obtain⟨F,G,K⟩:=s.out _ c;have M:w2 (af (w.alloc (qN W H A N a)) g):=c;clear c o)
  |(go_at_call 28;refine(v.out _ p.out).mono ?_;rintro e t ⟨l,m,n,rfl,q,d⟩;have z:=aa (ae p.out d);have B:w2 (SR vU 0 t l m n b):=q;have C:=aa (y.out.below d);clear d q)
  |((with_reducible show wpList _ _ _ (⟨gk 27,Op.convert 22 9 _,_,_,_,_⟩::_) _ _);refine vj rfl (tC (A:=i) (n:=j) (c:=c1) rfl rfl C.out) ?_)
  |((with_reducible show wpList _ _ _ (⟨gk 29,Op.convert 22 9 _,_,_,_,_⟩::_) _ _);refine vj rfl (tC (A:=l) (n:=m) (c:=n) rfl rfl B.out) ?_)
  |(go_at_call 11;refine(x.out _).mono ?_;rintro e L ⟨rfl,r⟩;have D:=aa (ae z.out r);clear r))
 go_ret;exact⟨rfl,D.out⟩
theorem Pn (W H:Int) (A:Option Addr) (N a:Nat) (d:List Bool) (w:wR) (b:SR vB R w A N a d):wS w1 10 #[.agg #[I J W,I J H,.slice A N a]] w (au (.bool wP) w):=by
 by_cases h:1700<N
 ·exact Nl W H A N a w (by have:=b.hm;have:=b.hc;unfold maxLen at*;omega) h
 obtain⟨c,f⟩:∃c,c=dF W H d:=⟨_,rfl⟩;obtain⟨g,k,i⟩:=c;refine LR W H A N a g k i w h (λV e=>?_) (λV e=>?_)
 ·rw[f];exact Gb W H A N a d V (b.below e)
 ·rw[f];exact Fc W H A N a d V (b.below e)
end
section
open Go.ChangeShapes Go.WideShapes Go.ChangeAt Go.RowKit
theorem k0:Rows.aztecDecodesRow.wf (OpenSpec.ofChange Rows.aztecDecodesSpec)=wP:=oK
theorem k3:Tryz.f10.params.all (prog.readableRec ·)=wP:=oK
theorem k4:namedTie w1 Rows.aztecDecodesRow.named Rows.aztecDecodesSpec.vars=wP:=oK
theorem k5:(Rows.aztecDecodesRow.stops==[])=wP:=oK
theorem k7:(Rows.aztecDecodesRow.knobs==[])=wP:=oK
theorem k9:(Rows.aztecDecodesRow.inPlace==prog.inPlace 10)=wP:=oK
theorem Ud:(Rows.aztecDecodesRow.unfollowed==prog.unfollowed 10)=wP:=oK
theorem Ss:(Rows.aztecDecodesRow.recurses==prog.recurses 10)=wP:=oK
theorem T3:(Rows.aztecDecodesRow.named==prog.varsNamed 10)=wP:=oK
theorem Uc:(Rows.aztecDecodesRow.maps==(Tryz.f10.params.toList++Rows.aztecDecodesSpec.plain.varTypes w1).any (prog.mapsRec ·))=wP:=oK
theorem TY:(Rows.aztecDecodesRow.ifaces==(Tryz.f10.params.toList++Rows.aztecDecodesSpec.plain.varTypes w1).any (prog.ifacesRec ·))=wP:=oK
theorem T8:(Rows.aztecDecodesRow.mapsOut==prog.mapsAmong Tryz.f10.resultTypes.toList)=wP:=oK
theorem Ua:(Rows.aztecDecodesRow.loops==(Tryz.f10.params.toList++Rows.aztecDecodesSpec.plain.varTypes w1).any (prog.loopsFrom ·))=wP:=oK
theorem S8:(Rows.aztecDecodesRow.wideKeys==(Tryz.f10.params.toList++Rows.aztecDecodesSpec.plain.varTypes w1++Tryz.f10.resultTypes.toList).any (prog.wideKeysFrom ·))=wP:=oK
theorem Ug:Rows.aztecDecodesSpec.vars.all (prog.varReadable ·)=wP:=oK
theorem Ub:Tryz.f10.resultTypes.all (λa=>prog.readableRec a&&decide (a<prog.types.size))=wP:=oK
theorem Uh:(Rows.aztecDecodesRow.ifacesOut==Tryz.f10.resultTypes.toList.any (prog.ifacesRec ·))=wP:=oK
theorem TZ:(Rows.aztecDecodesRow.loopsOut==Tryz.f10.resultTypes.toList.any (prog.loopsFrom ·))=wP:=oK
theorem T9:(Rows.aztecDecodesRow.plainKeys==prog.plainKeys)=wP:=oK
theorem Ue:Rows.aztecDecodesRow.shortTexts.isNone=wP:=oK
theorem T0:(Rows.aztecDecodesRow.lifted==prog.liftsFinal)=wP:=oK
theorem T2:(prog.make==gk Rows.aztecDecodesRow.make)=wP:=oK
theorem T7:(Rows.aztecDecodesRow.kinds==(if Rows.aztecDecodesRow.domain.isEmpty then[]else Tryz.f10.params.toList.map λa=>match prog.underlying a with|some (.int k)=>gk k|_=>U))=wP:=oK
theorem T5:(Rows.aztecDecodesRow.pinned==Rows.aztecDecodesRow.pinnedBy)=wP:=oK
theorem Uf:(Rows.aztecDecodesRow.veiled==(Tryz.f10.params.toList++Rows.aztecDecodesSpec.plain.varTypes w1++Tryz.f10.resultTypes.toList).any (prog.veiledRec ·))=wP:=oK
theorem Px:Rows.aztecDecodesRow.veiledFits w1 Tryz.f10.params.toList (Tryz.f10.params.toList++Rows.aztecDecodesSpec.plain.varTypes w1++Tryz.f10.resultTypes.toList)=wP:=oK
theorem QJ:joinedFacts w1 10 Tryz.f10 Rows.aztecDecodesSpec Rows.aztecDecodesRow=wP:=dD (dD (dD (dD (dD (dD (dD (dD (dD (dD (dD (dD (dD (dD (dD (dD (dD (dD (dD (dD (dD (dD (dD (dD (dD (dD (dD (dD (dD (dD (dD k0 Qj) Em) k3) k4) k5) O8) k7) EB) k9) Ud) Ss) T3) Uc) TY) T8) Ua) S8) Ug) Ub) Uh) TZ) T9) Ue) CA) F6) T0) T2) T7) T5) Uf) Px
abbrev L:List (String×DataW Unit):=[("unicode/utf8.acceptRanges",Rows.laid_unicode_utf8_acceptRanges),("unicode/utf8.first",Rows.laid_unicode_utf8_first)]
theorem lifted (c:Os) (D:c.Started) (H:Type) (b:TypeId×Value->H):
 ReturnsInHanded {} Tryz.checked c 10 .any (λw args=>(Rows.aztecDecodesSpec.pre b w1 Tryz.f10 [] R w args/\laidMetH w1 L w)/\sizedMet b w1 Tryz.f10 (OpenSpec.ofChange Rows.aztecDecodesSpec) R w args)
  (Rows.aztecDecodesSpec.post b w1 Tryz.f10 R wP R R):=by
 refine returnsInHanded_of_change_and (C:=Tryz.checked) (X:=λw _=>laidMetH w1 L w) (λ_ _ _ k h=>h.of_heap k) TP D oK func10
  (ChangeSpec.witness_shaped (enc:=b) (C:=Tryz.checked) (os:=c) (X:=λw _=>laidMetH w1 L w) R (World.laidAll w1 c L) #[.agg #[I J 0,I J 0,.slice U 0 0]] 8 (World.laidAll_os _ _ _)
   (World.shaped_of_ZipB oK oK) oK oK oK
   (by rw[MakeChecks.laidMetH_plain _ _ _ oK];exact laidMet_laidAll _ oK oK)) ?_
 intro W base args l E V C f _ _ F _;have i:∀(d:Nat) a v,Tryz.f10.params[d]?=gk a->args[d]?=gk v->Value.okWide w1 W .any base a v:=C;have z:=f;obtain⟨j,q,A,m,rfl,O,P⟩:=f;have g:DataW.TrodAll b w1 W 0 (λ_=>wP) wP Tryz.f10.params.toList args.toList l j:=A;rw[params10]at g i;obtain⟨v0,Q,G,S,K,M,T,rfl,rfl,n,o⟩:=trodAll_cons g;obtain⟨rfl,rfl,rfl⟩:=trodAll_nil o;obtain rfl:args=#[v0]:=by cases args;simp_all
 obtain⟨rfl,rfl⟩:=trodVars_none m;have B:∀a∈Tryz.f10.params.toList,prog.readableRec a=wP/\a<prog.types.size:=by
  rw[params10];intro a p;obtain rfl:=List.mem_singleton.1 p;exact⟨by kernel_rfl,of_decide_eq_true oK⟩
 obtain⟨x0,r,s,t,c0,u,rfl,x⟩:=M8 (i 0 28 v0 rfl rfl) n;refine(Pn x0 r s t c0 u W x).mono λe N ⟨y,hb⟩=>?_;subst y;exact⟨_,rfl,Pb Ts underlying4 rfl rfl B z rfl hb⟩
theorem over:Rows.aztecDecodesRow.holds Tryz.pinned (OpenSpec.ofChange Rows.aztecDecodesSpec):=
 OpenClaim.holds_of_wide 10 Tryz.f10 rfl rfl rfl rfl rfl rfl rfl ⟨rfl,rfl,rfl,rfl,rfl⟩ rfl rfl rfl rfl rfl oK func10 QJ
  (of_decide_eq_true oK) (by unfold Func.isWrapper;first|(rw[if_pos (by decide+kernel)];kernel_rfl)|(rw[if_neg (by decide+kernel)];exact⟨rfl,rfl⟩))
  (λa c H b _=>lifted a c H b)
theorem named:prog.funcNamed "barscan/barscanlaw28.AztecDecodes" =gk 10:=oK
theorem QG:([28].all λu=>!prog.wantsStandIn u)=wP:=oK
theorem proved:Rows.AztecDecodesCardSaid:=
 Claim7.holds_tied_plain_at .later [] [.data,.pinned] wP (wP,"65e349eac71c602cf550908973254ebb7b14ef88971fe42e5ec397cea621a45b") R
  over (λ_ h=>by cases h) oK (λ_ h=>by cases h) aztecDecodes_row_tie rfl ⟨rfl,rfl⟩ oK rfl
  (λf fn c e=>by
   obtain rfl:f=10:=Option.some.inj (named.symm.trans c)|>.symm;obtain rfl:fn=Tryz.f10:=(Option.some.inj (func10.symm.trans e)).symm
   exact⟨by kernel_rfl,λg a b=>by
    rw[params10]at b;have d:a∈[28]:=by
     have h:=Array.mem_of_getElem? b;simp only[List.mem_toArray,List.mem_cons,List.not_mem_nil,or_false]at h;rcases h with rfl<;>simp
    exact(show prog.wantsStandIn a=R by simpa using List.all_eq_true.1 QG a d)⟩)
  oK
end
end Go.Proofs.YtmnlkganmgcpbaaGreatDoor.aztecDecodes
