/- PROVED HERE: JoinEachUptoSaid: of any case (rule, facts, cuts) of qbi at most 1048576 inklinglaw17.JoinEach answers true, and what was handed in reads as it did. CONDITIONS: none beyond the qbi that the given statement names. -/
import Derived.Test.YtnponcjnahicnaaGreatDoorEaDToEaB
import Derived.Deep.DeepHandedRow
import Derived.Lay
import Derived.Test.YtnponcjnahicnaaGreatDoorTie
import Derived.Test.YtnponcjnahicnaaGreatDoorCards
set_option linter.unusedSimpArgs false
set_option linter.unusedVariables false
set_option maxRecDepth 100000
open List(sum_cons sum_nil)
namespace Go.Proofs.YtnponcjnahicnaaGreatDoor.joinEach
open Go.ChangeShapes Go.WideShapes Go.ChangeAt Go.RowKit Go.Ink
theorem own:ownKnob Tryz.prog.godebug=none:=wB
theorem laid:laidOutB Tryz.prog=true:=wB
theorem q55 (L:LitD):(qm L).length<=L.atom.args.length+2:=by
 unfold qm;split<;>simp
theorem q2t (ls:List LitD):(ls.flatMap qm).length<=2*(ls.map fun L=>L.atom.args.length+1).sum:=by
 induction ls with
 |nil=>simp
 |cons L ls ih=>
  rw [yF,zR,yX,sum_cons];have:=q55 L;omega
theorem q9b {W:World}(h:laidMetH Tryz.prog Rows.joinEachUptoRow.laid W):Tab W:=by
 have b:=h.filter fun x=>x.1== "internal/strconv.uint64pow10";rw [show(Rows.joinEachUptoRow.laid.filter fun x=>x.1== "internal/strconv.uint64pow10")= [("internal/strconv.uint64pow10",Lib.tabData .u64 Lib.pow10Tab)]from wB]at b;have c:laidMet Tryz.prog [("internal/strconv.uint64pow10",Lib.tabData .u64 Lib.pow10Tab)] W:=b;exact Lib.tabIs_of_head (g:=0) (t:=335) (e:=284) (n:=20) wB wB Tryz.underlying335 Tryz.underlying284 wB wB c
theorem contract (H:Type)(enc:TypeId×Value->H)(W:World)(base:Nat)(args:Array Value)(R gs:List (DataW H))(d:List MemPlace)
  (l: ∀(j:Nat) t v,Tryz.f3.params[j]?=some t->args[j]?=some v->Value.okWide Tryz.prog W .any base t v)
  (hW:DataW.Whole enc Tryz.prog Tryz.f3.params.toList Rows.joinEachSpec.vars false W args.toList R gs d) (hk:Rows.uptoSmall H (R++gs)=true) (y:laidMetH Tryz.prog Rows.joinEachUptoRow.laid W):
  Calls Tryz.prog 3 args W fun e W'=> ∃v,e=.returned v/\Rows.joinEachSpec.post enc Tryz.prog Tryz.f3 false true false false W args v W':=by
 have Y:=hW;obtain⟨p,q,x,hV,rfl,aB,aC⟩:=hW;have hA:DataW.TrodAll enc Tryz.prog W 0 (fun _=>true) true Tryz.f3.params.toList args.toList R p:=x;rw [Tryz.params3]at hA l;obtain⟨v0,aG,d0,aw,p0,q0,m,rfl,rfl,U,r0⟩:=trodAll_cons hA;obtain⟨rfl,rfl,rfl⟩:=trodAll_nil r0;obtain rfl:args= #[v0]:=Array.toList_inj.1 m;obtain⟨rfl,rfl⟩:=trodVars_none hV;clear x;simp only [yP]at hk;have hB:qob [d0]<=1048576:=yE hk;rw [qm3]at hB;simp only [yX,xi,sum_cons,sum_nil]at hB;obtain⟨cs,rfl,aE⟩:=okWide_struct Tryz.underlying31 (l 0 31 v0 rfl rfl);obtain⟨f0,U⟩:=U;obtain⟨r,kk,sh,sb,vo,vd,va,vn,vc,fo,fd,fa,fn,cut,e0,hr,aA,ay,aa,ad,hcut,ae,c,ab,az⟩:=q13 U (by simp only;omega);simp only [Value.cells]at e0;obtain rfl:cs= #[.string r.head.pred,sh,sb,.int .i64 kk,vo,vd,va,vn,vc]:=Array.toList_inj.1 e0;simp only [qlw]at ae;have hu:=q5b r.body;have g: ∀f,f∈fa++fn->qto f:=fun f u=>ab f (by simp only [zr] at u⊢;rcases u with h |h;exact .inl (.inr h);exact .inr h);have hA: ∀{a:qcg},qtm a->P16.smallA a:=fun h=>⟨by have:=h.1;omega,fun t z=>by have:=h.2 t z;unfold qh9 at this;unfold P16.smallT;omega⟩;have hT: ∀{t:TermD},qh9 t->P16.smallT t:=fun h=>by unfold qh9 at h;unfold P16.smallT;omega
 have z:=q2t r.body;have af:q16 r (fa++fn):=by
  refine⟨?_,?_,⟨hA c.1,fun L y=>⟨hA (c.2 L y).1,hT (c.2 L y).2.1,hT (c.2 L y).2.2⟩⟩,fun f u=>?_,fun f u=>?_,?_⟩
  ·have h:r.names.length=r.stands.length:=by simp [RuleD.names]
   rw [←h,qjx,zR];have:=qx5 r.headLit;simp only [RuleD.headLit]at this⊢;omega
  ·unfold qbu;rw [zR];omega
  ·have:=(g f u).2.1;omega
  ·have:=(g f u).1;omega
  ·simp only [zR];omega
 have s:Calls Tryz.prog 3 #[.agg #[.string r.head.pred,sh,sb,.int .i64 kk,vo,vd,va,vn,vc]] W fun e w'=>e=.returned (.bool true)/\Keep (fun b=>b<W.heap.size) W w':=qp9 hr aa ad (zG _) af (q9b y);refine s.mono fun e W' ⟨he,hK⟩=>?_;subst he;exact⟨_,rfl,qzi Y rfl rfl (fun _=>trodAll_cons_mk (shut_bool Tryz.underlying4 _) trodAll_mk0) rfl laid
  (by rw [Tryz.params3];intro t z;simp only [zw,yS,yf] at z;subst z;exact⟨wB,yE wB⟩) (hK.below (zG _))⟩
theorem qw1 (c:Os){H:Type}(enc:TypeId×Value->H):
  (Rows.OpenSpec.upto Rows.joinEachSpec).preRow enc Tryz.prog Tryz.f3 Rows.joinEachUptoRow.domain false Rows.joinEachUptoRow.laid ((World.laidAll Tryz.prog c Rows.joinEachUptoRow.laid).forCall (fun _ _=>0) ⟨#[],#[.agg #[.string .empty,.slice none 0 0,.slice none 0 0,.int .i64 0,.slice none 0 0,.slice none 0 0,.slice none 0 0,.slice none 0 0,.slice none 0 0]],[]⟩).memory #[.agg #[.string .empty,.slice none 0 0,.slice none 0 0,.int .i64 0,.slice none 0 0,.slice none 0 0,.slice none 0 0,.slice none 0 0,.slice none 0 0]]:=by
 have e:(DataW.whole enc Tryz.prog ((World.laidAll Tryz.prog c Rows.joinEachUptoRow.laid).forCall (fun _ _=>0) ⟨#[],#[.agg #[.string .empty,.slice none 0 0,.slice none 0 0,.int .i64 0,.slice none 0 0,.slice none 0 0,.slice none 0 0,.slice none 0 0,.slice none 0 0]],[]⟩).memory Tryz.f3.params.toList (Rows.OpenSpec.upto Rows.joinEachSpec).vars false (#[.agg #[.string .empty,.slice none 0 0,.slice none 0 0,.int .i64 0,.slice none 0 0,.slice none 0 0,.slice none 0 0,.slice none 0 0,.slice none 0 0]]:Array Value).toList 8).map (fun x=>(x.1,x.2.1))=
   some ([.agg [.agg [.agg [.lit (.string []),.nil],.nil],.lit (.int .i64 0),.nil,.nil,.nil,.nil,.nil]],[]):=wB
 obtain⟨⟨h,l,m⟩,g,b⟩:=xO.1 e;simp only [Prod.mk.injEq]at b;obtain⟨rfl,rfl⟩:=b;exact OpenSpec.preRow_of_cond 8 g wB (fun k d=>by cases d;kernel_rfl) wB (laidMet_laidAll _ wB wB)
theorem lifted (e:Os)(b:e.Started)(H:Type)(enc:TypeId×Value->H)(F:Stop.Interp):
  ReturnsInHanded {} Tryz.checked e 3 .any ((Rows.OpenSpec.upto Rows.joinEachSpec).preRow enc Tryz.prog Tryz.f3 Rows.joinEachUptoRow.domain false Rows.joinEachUptoRow.laid) (((Rows.OpenSpec.upto Rows.joinEachSpec).at F).post enc Tryz.prog Tryz.f3 false true false false):=by
 refine returnsInHanded_of_row (C:=Tryz.checked) (s:=Rows.OpenSpec.upto Rows.joinEachSpec) own b wB Tryz.func3
  (witness_row_at (enc:=enc) (C:=Tryz.checked) false (World.laidAll Tryz.prog e Rows.joinEachUptoRow.laid) #[.agg #[.string .empty,.slice none 0 0,.slice none 0 0,.int .i64 0,.slice none 0 0,.slice none 0 0,.slice none 0 0,.slice none 0 0,.slice none 0 0]] (World.laidAll_os _ _ _) wB wB wB (qw1 e enc)) ?_
 intro W base args g h c d m _ p _ l _ _;exact contract H enc W base args g h c d m (p _ rfl) l
theorem row:Rows.joinEachUptoRow.holds Tryz.pinned (Rows.OpenSpec.upto Rows.joinEachSpec):=
 OpenClaim.holds_of_cond 3 Tryz.f3 rfl rfl rfl rfl rfl rfl rfl ⟨rfl,rfl,rfl,rfl,rfl⟩ rfl rfl rfl rfl rfl wB Tryz.func3 wB
  (yE wB) (by unfold Func.isWrapper;first |(rw [zI (by decide+kernel)];kernel_rfl) |(rw [zF (by decide+kernel)];exact⟨rfl,rfl⟩))
  (fun c b H enc _ F=>by rw [OpenClaim.pre_eq_preRow];exact lifted c b H enc F)
theorem proved:Rows.JoinEachUptoCardSaid:=
 Claim7.holds_tied_plain_at .later [] [.data,.data,.data] true (true, "e6ba9a8d28b1b0125e4482d62b8f0f6cc5d57efa0ccd50fc771bcab7bcaba334") false
  row (fun _ h=>by cases h) wB (fun _ h=>by cases h) joinEachUpto_row_tie rfl ⟨rfl,rfl⟩ wB rfl
  (fun f fn e b=>by
   obtain rfl:f=3:=yI (e.symm.trans wB);obtain rfl:fn=Tryz.f3:=(yI (Tryz.func3.symm.trans b)).symm;exact⟨wB,fun j t c=>by
    rw [Tryz.params3]at c;have d:t=31:=by
     rcases j with _ |j
     ·simpa using c.symm
     ·simp at c
    subst d;exact(show Tryz.prog.wantsStandIn 31=false from wB)⟩)
  wB
end Go.Proofs.YtnponcjnahicnaaGreatDoor.joinEach
