/- PROVED HERE: JoinDeltaUptoSaid: of any case (rule, facts, cuts) of qbp at most 1048576 inklinglaw17.JoinDelta answers true, and what was handed in reads as it did. CONDITIONS: none beyond the qbp that the given statement names. -/
import Derived.Test.YtnponcjnahicnaaGreatDlQ
import Derived.Test.YtnponcjnahicnaaGreatReadGToEnds
set_option linter.unusedSimpArgs false
set_option linter.unusedVariables false
set_option maxRecDepth 100000
open List(sum_cons sum_nil)
namespace Go.Proofs.YtnponcjnahicnaaGreat.joinDelta
open Go.ChangeShapes Go.WideShapes Go.ChangeAt Go.RowKit Go.Ink
theorem own:ownKnob Tryz.prog.godebug=none:=wD
theorem laid:laidOutB Tryz.prog=true:=wD
theorem q5d (L:LitD):(qq L).length<=L.atom.args.length+2:=by
 unfold qq;split<;>simp
theorem q17 (ls:List LitD):(ls.flatMap qq).length<=2*(ls.map fun L=>L.atom.args.length+1).sum:=by
 induction ls with
 |nil=>simp
 |cons L ls ih=>
  rw [yF,zR,yZ,sum_cons];have:=q5d L;omega
theorem contract (H:Type)(enc:TypeId×Value->H)(W:World)(base:Nat)(args:Array Value)(y gs:List (DataW H))(d:List MemPlace)
  (l: ∀(j:Nat) t v,Tryz.f5.params[j]?=some t->args[j]?=some v->Value.okWide Tryz.prog W .any base t v)
  (hW:DataW.Whole enc Tryz.prog Tryz.f5.params.toList Rows.joinDeltaSpec.vars false W args.toList y gs d) (hk:Rows.uptoSmall H (y++gs)=true):
  Calls Tryz.prog 5 args W fun e W'=> ∃v,e=.returned v/\Rows.joinDeltaSpec.post enc Tryz.prog Tryz.f5 false true false false W args v W':=by
 have U:=hW;obtain⟨p,q,u,hV,rfl,aC,aD⟩:=hW;have hA:DataW.TrodAll enc Tryz.prog W 0 (fun _=>true) true Tryz.f5.params.toList args.toList y p:=u;rw [Tryz.params5]at hA l;obtain⟨v0,aH,d0,az,p0,q0,m,rfl,rfl,z,r0⟩:=trodAll_cons hA;obtain⟨rfl,rfl,rfl⟩:=trodAll_nil r0;obtain rfl:args= #[v0]:=Array.toList_inj.1 m;obtain⟨rfl,rfl⟩:=trodVars_none hV;clear u;simp only [yQ]at hk;have hB:qoj [d0]<=1048576:=yE hk;rw [qnv]at hB;simp only [yZ,xk,sum_cons,sum_nil]at hB;obtain⟨cs,rfl,aF⟩:=okWide_struct Tryz.underlying70 (l 0 70 v0 rfl rfl);obtain⟨f0,z⟩:=z;obtain⟨r,kk,sh,sb,vo,vd,va,vn,vc,fo,fd,fa,fn,ax,e0,hr,ae,aa,Y,ad,hcut,af,c,ab,aB⟩:=q3a z (by simp only;omega);simp only [Value.cells]at e0;obtain rfl:cs= #[.string r.head.pred,sh,sb,.int .i64 kk,vo,vd,va,vn,vc]:=Array.toList_inj.1 e0;simp only [qme]at af;have hu:=q5u r.body;have g: ∀f,f∈fo++fd++fa++fn->qtt f:=ab;have hA: ∀{a:qcn},qtr a->P16.smallA a:=fun h=>⟨by have:=h.1;omega,fun t x=>by have:=h.2 t x;unfold qin at this;unfold P16.smallT;omega⟩;have hT: ∀{t:TermD},qin t->P16.smallT t:=fun h=>by unfold qin at h;unfold P16.smallT;omega
 have x:=q17 r.body;have ag:q6j r (fo++fd++fa++fn):=by
  refine⟨?_,?_,⟨hA c.1,fun L R=>⟨hA (c.2 L R).1,hT (c.2 L R).2.1,hT (c.2 L R).2.2⟩⟩,fun f X=>?_,fun f X=>?_,?_⟩
  ·have h:r.names.length=r.stands.length:=by simp [RuleD.names]
   rw [←h,qj0,zR];have:=qym r.headLit;simp only [RuleD.headLit]at this⊢;omega
  ·unfold qb4;rw [zR];omega
  ·have:=(g f X).2.1;omega
  ·have:=(g f X).1;omega
  ·simp only [zR];omega
 have s:Calls Tryz.prog 5 #[.agg #[.string r.head.pred,sh,sb,.int .i64 kk,vo,vd,va,vn,vc]] W fun e w'=>e=.returned (.bool true)/\Keep (fun b=>b<W.heap.size) W w':=qpb hr ae aa Y ad (zG _) ag;refine s.mono fun e W' ⟨he,hK⟩=>?_;subst he;exact⟨_,rfl,q0d U rfl rfl (fun _=>trodAll_cons_mk (shut_bool Tryz.underlying4 _) trodAll_mk0) rfl laid
  (by rw [Tryz.params5];intro t x;simp only [zw,yU,yi] at x;subst x;exact⟨wD,yE wD⟩) (hK.below (zG _))⟩
theorem lifted (e:Os)(b:e.Started)(H:Type)(enc:TypeId×Value->H)(F:Stop.Interp):
  ReturnsInHanded {} Tryz.checked e 5 .any ((Rows.OpenSpec.upto Rows.joinDeltaSpec).pre6 enc Tryz.prog Tryz.f5 Rows.joinDeltaUptoRow.domain false) (((Rows.OpenSpec.upto Rows.joinDeltaSpec).at F).post enc Tryz.prog Tryz.f5 false true false false):=by
 refine returnsInHanded_of_cond (C:=Tryz.checked) (s:=Rows.OpenSpec.upto Rows.joinDeltaSpec) (k:=Rows.uptoSmall) rfl own b wD Tryz.func5
  (OpenSpec.witness (enc:=enc) (C:=Tryz.checked) (s:=Rows.OpenSpec.upto Rows.joinDeltaSpec) (k:=Rows.uptoSmall) rfl false ⟨#[],#[.agg #[.string .empty,.slice none 0 0,.slice none 0 0,.int .i64 0,.slice none 0 0,.slice none 0 0,.slice none 0 0,.slice none 0 0,.slice none 0 0]],[]⟩ 8 wD wD wD
   (x:=([.agg [.agg [.agg [.lit (.string []),.nil],.nil],.lit (.int .i64 0),.nil,.nil,.nil,.nil,.nil]],[],[])) wD rfl wD) ?_
 intro W base args g h c d l _ m _;exact contract H enc W base args g h c d l m
theorem proved:Rows.JoinDeltaUptoSaid:=
 OpenClaim.holds_of_cond 5 Tryz.f5 rfl rfl rfl rfl rfl rfl rfl ⟨rfl,rfl,rfl,rfl,rfl⟩ rfl rfl rfl rfl rfl wD Tryz.func5 wD
  (yE wD) (by unfold Func.isWrapper;first |(rw [zI (by decide+kernel)];kernel_rfl) |(rw [zF (by decide+kernel)];exact⟨rfl,rfl⟩))
  (fun c b H enc _ F=>lifted c b H enc F)
end Go.Proofs.YtnponcjnahicnaaGreat.joinDelta
