/- PROVED HERE: JoinRenamesUptoSaid: of any rule and facts that are together of qbe at most 1048576 inklinglaw17.JoinRenames answers true, and what was handed in reads as it did. CONDITIONS: none beyond the qbe that the given statement names. -/
import Derived.Test.YtnponcjnahicnaaGreatRows
import Derived.Test.YtnponcjnahicnaaGreatLwI
import Derived.Test.YtnponcjnahicnaaGreatReadGToEnds
import Derived.WalkKit
import Derived.ProofKit
import Derived.OpenShut
import Derived.JoinedCond
set_option linter.unusedSimpArgs false
set_option linter.unusedVariables false
open List(append_nil flatMap_cons length_append map_cons map_nil mem_append mem_cons not_mem_nil sum_cons sum_nil)
namespace Go.Proofs.YtnponcjnahicnaaGreat.joinRenames
open Go.ChangeShapes Go.WideShapes Go.ChangeAt Go.RowKit Go.Ink
theorem own:ownKnob Tryz.prog.godebug=none:=by kernel_rfl
theorem laid:laidOutB Tryz.prog=true:=by kernel_rfl
theorem q31 (L:LitD):(qr L).length<=L.atom.args.length+2:=by
 unfold qr;split<;>simp
theorem q0v (ls:List LitD):(ls.flatMap qr).length<=2*(ls.map fun L=>L.atom.args.length+1).sum:=by
 induction ls with
 |nil=>simp
 |cons L ls ih=>
  rw [flatMap_cons,length_append,map_cons,sum_cons];have:=q31 L;omega
set_option maxRecDepth 100000 in
theorem contract (H:Type)(enc:TypeId×Value->H)(W:World)(base:Nat)(args:Array Value)(ds gs:List (DataW H))(before:List MemPlace)
  (hval: ∀(j:Nat) t v,Tryz.f4.params[j]?=some t->args[j]?=some v->Value.okWide Tryz.prog W .any base t v)
  (hW:DataW.Whole enc Tryz.prog Tryz.f4.params.toList Rows.joinRenamesSpec.vars false W args.toList ds gs before) (hk:Rows.uptoSmall H (ds++gs)=true):
  Calls Tryz.prog 4 args W fun e W'=> ∃v,e=.returned v/\Rows.joinRenamesSpec.post enc Tryz.prog Tryz.f4 false true false false W args v W':=by
 have hW':=hW;obtain⟨p,q,hA0,hV,rfl,hfz,hnd⟩:=hW;have hA:DataW.TrodAll enc Tryz.prog W 0 (fun _=>true) true Tryz.f4.params.toList args.toList ds p:=hA0;rw [Tryz.params4]at hA hval;obtain⟨v0,vs0,d0,ds0,p0,q0,hargs,rfl,rfl,h0,r0⟩:=trodAll_cons hA;obtain⟨v1,vs1,d1,ds1,p1,q1,rfl,rfl,rfl,h1,r1⟩:=trodAll_cons r0;obtain⟨v2,vs2,d2,ds2,p2,q2,rfl,rfl,rfl,h2,r2⟩:=trodAll_cons r1;obtain⟨rfl,rfl,rfl⟩:=trodAll_nil r2;obtain rfl:args= #[v0,v1,v2]:=Array.toList_inj.1 hargs;obtain⟨rfl,rfl⟩:=trodVars_none hV;clear hA0;simp only [append_nil]at hk;have hB:qob [d0,d1,d2]<=1048576:=of_decide_eq_true hk;rw [qns]at hB;simp only [map_cons,map_nil,sum_cons,sum_nil]at hB;obtain⟨cs,rfl,hsz⟩:=okWide_struct Tryz.underlying27 (hval 0 27 v0 rfl rfl);obtain⟨a1,l1,cp1,rfl⟩:=okWide_slice Tryz.underlying28 (hval 1 28 v1 rfl rfl);obtain⟨a2,l2,cp2,rfl⟩:=okWide_slice Tryz.underlying28 (hval 2 28 v2 rfl rfl);obtain⟨f0,h0⟩:=h0;obtain⟨f1,h1⟩:=h1;obtain⟨f2,h2⟩:=h2;obtain⟨r,sh,sb,e0,hr,hrs,hfine⟩:=q1w h0 (by simp only;omega);obtain⟨x1,fs,e1,hf1,hl1,hn1⟩:=qqi h1 (by simp only;omega);obtain⟨x2,fn,e2,hf2,hl2,hn2⟩:=qqi h2 (by simp only;omega);simp only [Value.cells]at e0 e1 e2;cases e1;cases e2;obtain rfl:cs= #[.string r.head.pred,sh,sb]:=Array.toList_inj.1 e0;simp only [qpg]at hrs;have hu:=q4g r.body;have ht:=q0v r.body;have hsm:q5d r fs fn:=by
  refine⟨?_,?_,fun f hf=>?_,fun f hf=>?_,?_⟩
  ·have h:r.names.length=r.stands.length:=by simp [RuleD.names]
   rw [←h,qjx,length_append];have:=qxp r.headLit;simp only [RuleD.headLit]at this⊢;omega
  ·unfold qc3;rw [length_append];omega
  ·rcases mem_append.1 hf with hf |hf
   ·have:=(hn1 f hf).2;omega
   ·have:=(hn2 f hf).2;omega
  ·rcases mem_append.1 hf with hf |hf
   ·have:=(hn1 f hf).1;omega
   ·have:=(hn2 f hf).1;omega
  ·rw [length_append];have q1:fs.length+1<=qbe d1:=hl1;have q2:fn.length+1<=qbe d2:=hl2;omega
 have hcall:Calls Tryz.prog 4 #[.agg #[.string r.head.pred,sh,sb],.slice a1 l1 cp1,.slice a2 l2 cp2] W fun e w'=>e=.returned (.bool true)/\Keep (fun b=>b<W.heap.size) W w':=qv9 hr hf1 hf2 (Nat.le_refl _) hsm;refine hcall.mono fun e W' ⟨he,hK⟩=>?_;subst he;exact⟨_,rfl,qy9 hW' rfl rfl (fun _=>trodAll_cons_mk (shut_bool Tryz.underlying4 _) trodAll_mk0) rfl laid
  (by rw [Tryz.params4];intro t ht;simp only [mem_cons,not_mem_nil,or_false] at ht;rcases ht with rfl |rfl |rfl<;>exact⟨by kernel_rfl,of_decide_eq_true (by kernel_rfl)⟩) (hK.below (Nat.le_refl _))⟩
set_option maxRecDepth 100000 in
theorem lifted (os:Os)(started:os.Started)(H:Type)(enc:TypeId×Value->H)(F:Stop.Interp):
  ReturnsInHanded {} Tryz.checked os 4 .any ((Rows.OpenSpec.upto Rows.joinRenamesSpec).pre6 enc Tryz.prog Tryz.f4 Rows.joinRenamesUptoRow.domain false) (((Rows.OpenSpec.upto Rows.joinRenamesSpec).at F).post enc Tryz.prog Tryz.f4 false true false false):=by
 refine returnsInHanded_of_cond (C:=Tryz.checked) (s:=Rows.OpenSpec.upto Rows.joinRenamesSpec) (k:=Rows.uptoSmall) rfl own started (by kernel_rfl) Tryz.func4
  (OpenSpec.witness (enc:=enc) (C:=Tryz.checked) (s:=Rows.OpenSpec.upto Rows.joinRenamesSpec) (k:=Rows.uptoSmall) rfl false ⟨#[],#[.agg #[.string .empty,.slice none 0 0,.slice none 0 0],.slice none 0 0,.slice none 0 0],[]⟩ 8 (by kernel_rfl) (by kernel_rfl) (by kernel_rfl)
   (x:=([.agg [.agg [.lit (.string []),.nil],.nil],.nil,.nil],[],[])) (by kernel_rfl) rfl (by kernel_rfl)) ?_
 intro W base args ds gs before hval hW _ hk _;exact contract H enc W base args ds gs before hval hW hk
theorem proved:Rows.JoinRenamesUptoSaid:=
 OpenClaim.holds_of_cond 4 Tryz.f4 rfl rfl rfl rfl rfl rfl rfl ⟨rfl,rfl,rfl,rfl,rfl⟩ rfl rfl rfl rfl rfl (by kernel_rfl) Tryz.func4 (by kernel_rfl)
  (of_decide_eq_true (by kernel_rfl)) (by unfold Func.isWrapper;first |(rw [if_pos (by decide+kernel)];kernel_rfl) |(rw [if_neg (by decide+kernel)];exact⟨rfl,rfl⟩))
  (fun os started H enc _ F=>lifted os started H enc F)
end Go.Proofs.YtnponcjnahicnaaGreat.joinRenames
