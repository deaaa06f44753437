/- PROVED HERE: JoinCompilesUptoSaid: of any rule of bulk at most 1048576 inklinglaw17.JoinCompiles answers true, and what was handed in reads as it did. CONDITIONS: none beyond the bulk that the given statement names. -/
import Derived.Test.YtnponcjnahicnaaGreatDoorKsH
import Derived.Test.YtnponcjnahicnaaGreatDoorReadGToRead
import Derived.Deep.DeepHandedRow
import Derived.Lay
import Derived.Test.YtnponcjnahicnaaGreatDoorTie
import Derived.Test.YtnponcjnahicnaaGreatDoorCards
set_option linter.unusedSimpArgs false
set_option linter.unusedVariables false
set_option maxRecDepth 100000
open List(sum_cons sum_nil)
namespace Go.Proofs.YtnponcjnahicnaaGreatDoor.joinCompiles
open Go.ChangeShapes Go.WideShapes Go.ChangeAt Go.RowKit Go.Ink
theorem own:ownKnob Tryz.prog.godebug=none:=wA
theorem laid:laidOutB Tryz.prog=true:=wA
theorem q1z (L:LitD):(ql L).length<=L.atom.args.length+2:=by
 unfold ql;split<;>simp
theorem qy9 (ls:List LitD):(ls.flatMap ql).length<=2*(ls.map fun L=>L.atom.args.length+1).sum:=by
 induction ls with
 |nil=>simp
 |cons L ls ih=>
  rw [yE,zR,yW,sum_cons];have:=q1z L;omega
theorem q5a {W:World}(h:laidMetH Tryz.prog Rows.joinCompilesUptoRow.laid W):Tab W:=by
 have b:=h.filter fun x=>x.1== "internal/strconv.uint64pow10";rw [show(Rows.joinCompilesUptoRow.laid.filter fun x=>x.1== "internal/strconv.uint64pow10")= [("internal/strconv.uint64pow10",Lib.tabData .u64 Lib.pow10Tab)]from wA]at b;have c:laidMet Tryz.prog [("internal/strconv.uint64pow10",Lib.tabData .u64 Lib.pow10Tab)] W:=b;exact Lib.tabIs_of_head (g:=0) (t:=335) (e:=284) (n:=20) wA wA Tryz.underlying335 Tryz.underlying284 wA wA c
theorem contract (H:Type)(enc:TypeId×Value->H)(W:World)(base:Nat)(args:Array Value)(u X:List (DataW H))(d:List MemPlace)
  (f: ∀(j:Nat) t v,Tryz.f4.params[j]?=some t->args[j]?=some v->Value.okWide Tryz.prog W .any base t v)
  (hW:DataW.Whole enc Tryz.prog Tryz.f4.params.toList Rows.joinCompilesSpec.vars false W args.toList u X d) (hk:Rows.uptoSmall H (u++X)=true) (m:laidMetH Tryz.prog Rows.joinCompilesUptoRow.laid W):
  Calls Tryz.prog 4 args W fun e W'=> ∃v,e=.returned v/\Rows.joinCompilesSpec.post enc Tryz.prog Tryz.f4 false true false false W args v W':=by
 have y:=hW;obtain⟨p,q,l,hV,rfl,ai,aj⟩:=hW;have k:DataW.TrodAll enc Tryz.prog W 0 (fun _=>true) true Tryz.f4.params.toList args.toList u p:=l;rw [Tryz.params4]at k f;obtain⟨v0,an,d0,ag,p0,q0,g,rfl,rfl,x,r0⟩:=trodAll_cons k;obtain⟨rfl,rfl,rfl⟩:=trodAll_nil r0;obtain rfl:args= #[v0]:=Array.toList_inj.1 g;obtain⟨rfl,rfl⟩:=trodVars_none hV;clear l;simp only [yO]at hk;have Y:bulks [d0]<=1048576:=yD hk;rw [bulks_sum]at Y;simp only [yW,xi,sum_cons,sum_nil]at Y;obtain⟨cs,rfl,al⟩:=okWide_struct Tryz.underlying27 (f 0 27 v0 rfl rfl);obtain⟨f0,x⟩:=x;obtain⟨r,sh,sb,U,hr,z,c⟩:=read_rule x (by simp only;omega);simp only [Value.cells]at U;obtain rfl:cs= #[.string r.head.pred,sh,sb]:=Array.toList_inj.1 U;simp only [ruleSize]at z;have k: ∀{a:qfx},FineA a->P16.smallA a:=fun h=>⟨by have:=h.1;omega,fun t s=>by have:=h.2 t s;unfold FineT at this;unfold P16.smallT;omega⟩;have hT: ∀{t:TermD},FineT t->P16.smallT t:=fun h=>by unfold FineT at h;unfold P16.smallT;omega
 have s:=qy9 r.body;have R:qzb r:=by
  refine⟨?_,⟨k c.1,fun L m=>⟨k (c.2 L m).1,hT (c.2 L m).2.1,hT (c.2 L m).2.2⟩⟩⟩;unfold qca;rw [zR];omega
 have i:Calls Tryz.prog 4 #[.agg #[.string r.head.pred,sh,sb]] W fun e w'=>e=.returned (.bool true)/\Keep (fun b=>b<W.heap.size) W w':=qlo hr (zG _) R (q5a m);refine i.mono fun e W' ⟨he,hK⟩=>?_;subst he;exact⟨_,rfl,qwg y rfl rfl (fun _=>trodAll_cons_mk (shut_bool Tryz.underlying4 _) trodAll_mk0) rfl laid
  (by rw [Tryz.params4];intro t s;simp only [zt,yR,yf] at s;subst s;exact⟨wA,yD wA⟩) (hK.below (zG _))⟩
theorem qun (c:Os){H:Type}(enc:TypeId×Value->H):
  (Rows.OpenSpec.upto Rows.joinCompilesSpec).preRow enc Tryz.prog Tryz.f4 Rows.joinCompilesUptoRow.domain false Rows.joinCompilesUptoRow.laid ((World.laidAll Tryz.prog c Rows.joinCompilesUptoRow.laid).forCall (fun _ _=>0) ⟨#[],#[.agg #[.string .empty,.slice none 0 0,.slice none 0 0]],[]⟩).memory #[.agg #[.string .empty,.slice none 0 0,.slice none 0 0]]:=by
 have e:(DataW.whole enc Tryz.prog ((World.laidAll Tryz.prog c Rows.joinCompilesUptoRow.laid).forCall (fun _ _=>0) ⟨#[],#[.agg #[.string .empty,.slice none 0 0,.slice none 0 0]],[]⟩).memory Tryz.f4.params.toList (Rows.OpenSpec.upto Rows.joinCompilesSpec).vars false (#[.agg #[.string .empty,.slice none 0 0,.slice none 0 0]]:Array Value).toList 8).map (fun x=>(x.1,x.2.1))=
   some ([.agg [.agg [.lit (.string []),.nil],.nil]],[]):=wA
 obtain⟨⟨g,h,i⟩,f,b⟩:=xN.1 e;simp only [Prod.mk.injEq]at b;obtain⟨rfl,rfl⟩:=b;exact OpenSpec.preRow_of_cond 8 f wA (fun k d=>by cases d;kernel_rfl) wA (laidMet_laidAll _ wA wA)
theorem lifted (e:Os)(b:e.Started)(H:Type)(enc:TypeId×Value->H)(F:Stop.Interp):
  ReturnsInHanded {} Tryz.checked e 4 .any ((Rows.OpenSpec.upto Rows.joinCompilesSpec).preRow enc Tryz.prog Tryz.f4 Rows.joinCompilesUptoRow.domain false Rows.joinCompilesUptoRow.laid) (((Rows.OpenSpec.upto Rows.joinCompilesSpec).at F).post enc Tryz.prog Tryz.f4 false true false false):=by
 refine returnsInHanded_of_row (C:=Tryz.checked) (s:=Rows.OpenSpec.upto Rows.joinCompilesSpec) own b wA Tryz.func4
  (witness_row_at (enc:=enc) (C:=Tryz.checked) false (World.laidAll Tryz.prog e Rows.joinCompilesUptoRow.laid) #[.agg #[.string .empty,.slice none 0 0,.slice none 0 0]] (World.laidAll_os _ _ _) wA wA wA (qun e enc)) ?_
 intro W base args f g c d i _ j _ h _ _;exact contract H enc W base args f g c d i (j _ rfl) h
theorem row:Rows.joinCompilesUptoRow.holds Tryz.pinned (Rows.OpenSpec.upto Rows.joinCompilesSpec):=
 OpenClaim.holds_of_cond 4 Tryz.f4 rfl rfl rfl rfl rfl rfl rfl ⟨rfl,rfl,rfl,rfl,rfl⟩ rfl rfl rfl rfl rfl wA Tryz.func4 wA
  (yD wA) (by unfold Func.isWrapper;first |(rw [zI (by decide+kernel)];kernel_rfl) |(rw [zF (by decide+kernel)];exact⟨rfl,rfl⟩))
  (fun c b H enc _ F=>by rw [OpenClaim.pre_eq_preRow];exact lifted c b H enc F)
theorem proved:Rows.JoinCompilesUptoCardSaid:=
 Claim7.holds_tied_plain_at .later [] [.data,.data,.data] true (true, "e6ba9a8d28b1b0125e4482d62b8f0f6cc5d57efa0ccd50fc771bcab7bcaba334") false
  row (fun _ h=>by cases h) wA (fun _ h=>by cases h) joinCompilesUpto_row_tie rfl ⟨rfl,rfl⟩ wA rfl
  (fun f fn e b=>by
   obtain rfl:f=4:=yH (e.symm.trans wA);obtain rfl:fn=Tryz.f4:=(yH (Tryz.func4.symm.trans b)).symm;exact⟨wA,fun j t c=>by
    rw [Tryz.params4]at c;have d:t=27:=by
     rcases j with _ |j
     ·simpa using c.symm
     ·simp at c
    subst d;exact(show Tryz.prog.wantsStandIn 27=false from wA)⟩)
  wA
end Go.Proofs.YtnponcjnahicnaaGreatDoor.joinCompiles
