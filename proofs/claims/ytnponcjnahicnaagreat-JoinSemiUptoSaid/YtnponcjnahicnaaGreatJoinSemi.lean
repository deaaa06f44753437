/- PROVED HERE: JoinSemiUptoSaid: of any case (rule, facts, cuts) of qbg at most 1048576 inklinglaw17.JoinSemi answers true, and what was handed in reads as it did. CONDITIONS: none beyond the qbg that the given statement names. -/
import Derived.Test.YtnponcjnahicnaaGreatRows
import Derived.Test.YtnponcjnahicnaaGreatSmD
import Derived.Test.YtnponcjnahicnaaGreatReadGToEnds
import Derived.WalkKit
import Derived.ProofKit
import Derived.OpenShut
import Derived.JoinedCond
set_option linter.unusedSimpArgs false
set_option linter.unusedVariables false
open List(append_nil length_append map_cons map_nil mem_append mem_append_left mem_append_right mem_cons not_mem_nil sum_cons sum_nil)
namespace Go.Proofs.YtnponcjnahicnaaGreat.joinSemi
open Go.ChangeShapes Go.WideShapes Go.ChangeAt Go.RowKit Go.Ink
theorem own:ownKnob Tryz.prog.godebug=none:=by kernel_rfl
theorem laid:laidOutB Tryz.prog=true:=by kernel_rfl
set_option maxRecDepth 100000 in
theorem contract (H:Type)(enc:TypeId×Value->H)(W:World)(base:Nat)(args:Array Value)(ds gs:List (DataW H))(before:List MemPlace)
  (hval: ∀(j:Nat) t v,Tryz.f6.params[j]?=some t->args[j]?=some v->Value.okWide Tryz.prog W .any base t v)
  (hW:DataW.Whole enc Tryz.prog Tryz.f6.params.toList Rows.joinSemiSpec.vars false W args.toList ds gs before) (hk:Rows.uptoSmall H (ds++gs)=true):
  Calls Tryz.prog 6 args W fun e W'=> ∃v,e=.returned v/\Rows.joinSemiSpec.post enc Tryz.prog Tryz.f6 false true false false W args v W':=by
 have hW':=hW;obtain⟨p,q,hA0,hV,rfl,hfz,hnd⟩:=hW;have hA:DataW.TrodAll enc Tryz.prog W 0 (fun _=>true) true Tryz.f6.params.toList args.toList ds p:=hA0;rw [Tryz.params6]at hA hval;obtain⟨v0,vs0,d0,ds0,p0,q0,hargs,rfl,rfl,h0,r0⟩:=trodAll_cons hA;obtain⟨rfl,rfl,rfl⟩:=trodAll_nil r0;obtain rfl:args= #[v0]:=Array.toList_inj.1 hargs;obtain⟨rfl,rfl⟩:=trodVars_none hV;clear hA0;simp only [append_nil]at hk;have hB:qnt [d0]<=1048576:=of_decide_eq_true hk;rw [qna]at hB;simp only [map_cons,map_nil,sum_cons,sum_nil]at hB;obtain⟨cs,rfl,hsz⟩:=okWide_struct Tryz.underlying70 (hval 0 70 v0 rfl rfl);obtain⟨f0,h0⟩:=h0;obtain⟨r,sh,sb,vk,vo,vd,va,vn,vc,fo,fd,fa,fn,cut,e0,hr,hfo,hfd,hfa,hfn,hcut,hrs,hfine,hff,hfl⟩:=q1l h0 (by simp only;omega);simp only [Value.cells]at e0;obtain rfl:cs= #[.string r.head.pred,sh,sb,vk,vo,vd,va,vn,vc]:=Array.toList_inj.1 e0;simp only [qlz]at hrs;have hu:=q36 r.body;have hmem: ∀f,f∈fa++fn->qsy f:=fun f hf=>by
  rcases mem_append.1 hf with hf |hf
  ·exact hff f (mem_append_left _ (mem_append_right _ hf))
  ·exact hff f (mem_append_right _ hf)
 have hsm:q5b r fa fn:=by
  refine⟨?_,fun f hf=>?_,fun f hf=>?_,fun f hf s hs=>?_,?_⟩
  ·have h:r.names.length=r.stands.length:=by simp [RuleD.names]
   rw [←h,qlg,length_append];have:=qxb r.headLit;simp only [RuleD.headLit]at this⊢;omega
  ·have:=(hmem f hf).2.1;omega
  ·have:=(hmem f hf).1;omega
  ·have:=(hmem f hf).2.2 s hs;omega
  ·rw [length_append];omega
 have hcall:Calls Tryz.prog 6 #[.agg #[.string r.head.pred,sh,sb,vk,vo,vd,va,vn,vc]] W fun e w'=>e=.returned (.bool true)/\Keep (fun b=>b<W.heap.size) W w':=q4q hr hfa hfn hcut (Nat.le_refl _) hsm;refine hcall.mono fun e W' ⟨he,hK⟩=>?_;subst he;exact⟨_,rfl,qyy hW' rfl rfl (fun _=>trodAll_cons_mk (shut_bool Tryz.underlying4 _) trodAll_mk0) rfl laid
  (by rw [Tryz.params6];intro t ht;simp only [mem_cons,not_mem_nil,or_false] at ht;subst ht;exact⟨by kernel_rfl,of_decide_eq_true (by kernel_rfl)⟩) (hK.below (Nat.le_refl _))⟩
set_option maxRecDepth 100000 in
theorem lifted (os:Os)(started:os.Started)(H:Type)(enc:TypeId×Value->H)(F:Stop.Interp):
  ReturnsInHanded {} Tryz.checked os 6 .any ((Rows.OpenSpec.upto Rows.joinSemiSpec).pre6 enc Tryz.prog Tryz.f6 Rows.joinSemiUptoRow.domain false) (((Rows.OpenSpec.upto Rows.joinSemiSpec).at F).post enc Tryz.prog Tryz.f6 false true false false):=by
 refine returnsInHanded_of_cond (C:=Tryz.checked) (s:=Rows.OpenSpec.upto Rows.joinSemiSpec) (k:=Rows.uptoSmall) rfl own started (by kernel_rfl) Tryz.func6
  (OpenSpec.witness (enc:=enc) (C:=Tryz.checked) (s:=Rows.OpenSpec.upto Rows.joinSemiSpec) (k:=Rows.uptoSmall) rfl false ⟨#[],#[.agg #[.string .empty,.slice none 0 0,.slice none 0 0,.int .i64 0,.slice none 0 0,.slice none 0 0,.slice none 0 0,.slice none 0 0,.slice none 0 0]],[]⟩ 8 (by kernel_rfl) (by kernel_rfl) (by kernel_rfl)
   (x:=([.agg [.agg [.agg [.lit (.string []),.nil],.nil],.lit (.int .i64 0),.nil,.nil,.nil,.nil,.nil]],[],[])) (by kernel_rfl) rfl (by kernel_rfl)) ?_
 intro W base args ds gs before hval hW _ hk _;exact contract H enc W base args ds gs before hval hW hk
theorem proved:Rows.JoinSemiUptoSaid:=
 OpenClaim.holds_of_cond 6 Tryz.f6 rfl rfl rfl rfl rfl rfl rfl ⟨rfl,rfl,rfl,rfl,rfl⟩ rfl rfl rfl rfl rfl (by kernel_rfl) Tryz.func6 (by kernel_rfl)
  (of_decide_eq_true (by kernel_rfl)) (by unfold Func.isWrapper;first |(rw [if_pos (by decide+kernel)];kernel_rfl) |(rw [if_neg (by decide+kernel)];exact⟨rfl,rfl⟩))
  (fun os started H enc _ F=>lifted os started H enc F)
end Go.Proofs.YtnponcjnahicnaaGreat.joinSemi
