/- Parts of the proof. -/
import Derived.Test.YtnponcjnahicnaaGreatProg
import Derived.Test.YtnponcjnahicnaaGreatLkCToEcA
import Derived.Test.YtnponcjnahicnaaGreatHdToKp
set_option linter.unusedSimpArgs false
set_option linter.unusedVariables false
open Go.Proofs.Tryz(prog)
open List(append_nil drop_zero getElem?_map getElem?_replicate getElem?_take_of_lt length_map length_replicate)
namespace Go.Proofs
open Go.RowKit Go.Ink Go.Flt R4 P16
def EachV (U:Nat->Prop)(nU n0:Nat)(W0 X:World):Prop:=(∀b,U b->X.heap[b]?=W0.heap[b]?)/\nU<=X.heap.size/\n0<=X.heap.size
theorem EachV.keep {U:Nat->Prop}{nU n0:Nat}{W0 X Y:World}{C:Nat->Prop}(h:EachV U nU n0 W0 X)(hU: ∀b,U b->b<nU)(hK:Keep C X Y)(hC: ∀b,U b->C b):EachV U nU n0 W0 Y:=
 ⟨fun b hb=>(hK.block b (by have:=hU b hb;have:=h.2.1;omega) (hC b hb)).trans (h.1 b hb),Nat.le_trans h.2.1 hK.size,Nat.le_trans h.2.2 hK.size⟩
theorem q27 {g:Gh}{W X:World}(hg:GInv g W){b:Nat}(h1:W.heap.size<=b){o:Obj}(h2:X.heap[b]?=some o):(g.hold W.heap.size X).held b=some o:=by
 have ht:g.tag b=none:=by
  cases e:g.tag b with
  |none=>rfl
  |some T=>have:=hg.lt b T e;omega
 have hh:g.held b=none:=by
  cases e:g.held b with
  |none=>rfl
  |some T=>have:=qe (hg.hold b T e);omega
 simp only [Gh.hold];rw [if_pos ⟨h1,qe h2,ht,hh⟩];exact h2
theorem qs4 {C:Nat->Prop}{W X:World}(h:Keep C W X)(hC: ∀b,b<W.heap.size->C b):Keep (fun _=>True) W X:=h.mono fun b hb _=>hC b hb
theorem YieldAt.mono {P:Program}{F:Fence}{n:Nat}{l:Nat}{args:Array Value}{X:World}{Q Q':Ending->World->Prop}(h:YieldAt F n P l args X Q)(hq: ∀e w,Q e w->Q' e w):YieldAt F n P l args X Q':=by
 obtain⟨fn,tmps,assign,body,h1,h2⟩:=h;exact⟨fn,tmps,assign,body,h1,h2.mono hq⟩
theorem q5f {vars:List ByteArray}:qdu vars (List.replicate vars.length ⟨#[]⟩) (List.replicate vars.length false) qb3:=by
 refine⟨by simp,by simp,fun p x hx=>?_,fun p x v _ h=>(by cases h),fun x v h=>(by cases h)⟩;have hl:=(List.getElem?_eq_some_iff.1 hx).1;rw [getElem?_replicate,if_pos hl];constructor
 ·intro h;cases h
 ·rintro⟨v,h⟩;cases h
set_option maxHeartbeats 1000000 in
theorem qxq {n0:Nat}{Ss:List Nat}{U:Nat->Prop}{nU:Nat}{W0:World}{J:Nat}{r:RuleD}{pos:List Int}{vha vb vv va vt vh:Value}(hr:qcr r)(hj:JoinAt U nU W0 J r (qak r) pos vha vb vv va vt vh)(hUn: ∀b,U b->b<nU)
  {sF:Nat->Option Nat} {sN:Option Nat} (hsS: ∀m S,sF m=some S->S∈Ss) (hsN: ∀S,sN=some S->S∈Ss) {first:Int} (hf:qaz r first=false)
  {l:Nat} {Jp Jx:Nat->Gh->World->Prop} {W:World} {g0:Gh} (hinv:GInv g0 W) (hst:qeq Ss g0) (hV:EachV U nU n0 W0 W) (hU: ∀b,U b->g0.free b)
  (hJ: ∀k γ X γ' Y,Jp k γ X->(qbt n0 Ss).istep γ X γ' Y->Jp k γ' Y) (hJx: ∀k γ X γ' Y,Jx k γ X->(qbt n0 Ss).istep γ X γ' Y->Jx k γ' Y)
  (hround: ∀k γ X0 X args,k<(qef g0 sF sN r first).length->Jp k γ X0->(qbt n0 Ss).istep γ X0 γ X->(qbt n0 Ss).inv γ X->EachV U nU n0 W0 X->W.heap.size<=X0.heap.size->(∃b,(qef g0 sF sN r first)[k]?=some b/\qkn r (qak r) b γ X0.heap.size X args)->YieldAt Fence.wide 0 prog l args X (qhp (qbt n0 Ss) (EachV U nU n0 W0) Jp Jx k γ X))
  (h0:Jp 0 g0 W) (hok:okJ g0 sF sN r.body r.body.length=true)
  {X:World} (hK:Keep (fun _=>True) W X) {Bj By Bl Lk Bs V KK Bv Bk Bt Bu Bp:Nat} {ao:Option Addr} {co:Nat}
  (l1:W.heap.size<=Bj) (l2:W.heap.size<=By) (l3:W.heap.size<=Bl) (l4:W.heap.size<=Lk) (l5:W.heap.size<=Bs) (l6:W.heap.size<=V) (l7:W.heap.size<=KK) (l8:W.heap.size<=Bv) (l9:W.heap.size<=Bk) (l10:W.heap.size<=Bt) (l11:W.heap.size<=Bu) (l12:W.heap.size<=Bp)
  (hown:X.ownsRow W.heap.size 3 1 (.slice ao (qf6 g0 sF sN r first).length co) (qf6 g0 sF sN r first).length ((qf6 g0 sF sN r first).map fun i:Nat=>.int .i64 (i:Int)))
  (p1:X.heap[Bj]?=some (.cells #[qj J] 31 (0,0))) (p2:X.heap[By]?=some (.cells #[.func (.yield l) #[] #[]] 103 (0,0))) (p3:X.heap[Bl]?=some (.cells #[.slice (some ⟨Lk,0,none⟩) r.body.length r.body.length] 153 (0,0)))
  (p4:X.heap[Lk]?=some (.cells ((qdi g0 sF sN r.body).flatMap LookD.cells).toArray 161 (0,0))) (p5:X.heap[Bs]?=some (.cells #[.slice ao (qf6 g0 sF sN r first).length co] 86 (0,0)))
  (p6:X.heap[V]?=some (.cells (Array.replicate (qak r).length (.string ⟨#[]⟩)) 9 (0,0))) (p7:X.heap[KK]?=some (.cells (madeCells #[.bool false] (qak r).length) 4 (0,0)))
  (p8:X.heap[Bv]?=some (.cells #[.slice (some ⟨V,0,none⟩) (qak r).length (qak r).length] 46 (0,0))) (p9:X.heap[Bk]?=some (.cells #[.slice (some ⟨KK,0,none⟩) (qak r).length (qak r).length] 68 (0,0)))
  (p10:X.heap[Bt]?=some (.cells #[.func (.func 86) #[] #[qj Bv]] 157 (0,0))) (p11:X.heap[Bu]?=some (.cells #[.func (.func 87) #[] #[qj Bt]] 158 (0,0)))
  (p12:X.heap[Bp]?=some (.cells #[.func (.func 88) #[] #[qj Bs,qj By,qj Bu,qj Bj,qj Bv,qj Bl,qj Bt,qj Bp,qj Bk]] 159 (0,0))):
  Calls prog 88 #[.int .i64 0,qj Bs,qj By,qj Bu,qj Bj,qj Bv,qj Bl,qj Bt,qj Bp,qj Bk] X fun e W'=>(∃b,e=.returned (.bool b))/\W.heap.size<=W'.heap.size/\ ∃γ',(qbt n0 Ss).inv γ' W'/\EachV U nU n0 W0 W'/\(Jp (qef g0 sF sN r first).length γ' W'∨ ∃k,k<(qef g0 sF sN r first).length/\Jx k γ' W'):=by
 obtain⟨hal,hkinds,hway⟩:=qhv (qhg hinv sF sN hr first hf);have hgX:GInv g0 X:=hinv.keep (hK.mono fun _ _ _=>trivial);have hn0:n0<=W.heap.size:=hV.2.2;have hne: ∀{a b:Nat} {o o':Obj},X.heap[a]?=some o->X.heap[b]?=some o'->o≠o'->a≠b:=fun ha hb ho e=>by subst e;rw [ha] at hb;exact ho (Option.some.inj hb)
 have hmade:(madeCells #[.bool false] (qak r).length)=((List.replicate (qak r).length false).map Value.bool).toArray:=qw9 _;have hmade2:(Array.replicate (qak r).length (Value.string ⟨#[]⟩))=((List.replicate (qak r).length (⟨#[]⟩:ByteArray)).map Value.string).toArray:=by
  apply Array.ext
  ·simp
  ·intro i h1 h2;simp
 have hvk:V≠KK:=hne p6 p7 (by intro h;injection h with _ h _;revert h;decide);have nv: ∀{b:Nat} {vs:Array Value} {t:TypeId},X.heap[b]?=some (.cells vs t (0,0))->t≠9->t≠4->b≠V/\b≠KK:=fun hb h1 h2=>⟨hne hb p6 (by intro h;injection h with _ h _;exact h1 h),hne hb p7 (by intro h;injection h with _ h _;exact h2 h)⟩;obtain⟨gs,hgs⟩:=ex (g0.hold W.heap.size X);have hstep:GStep n0 g0 W gs X:=by rw [←hgs];exact(GStep.own hinv hK).hold hn0
 have hgst:gs.st=g0.st:=by rw [←hgs];rfl
 have hnew: ∀{b:Nat} {o:Obj},W.heap.size<=b->X.heap[b]?=some o->gs.held b=some o:=fun h1 h2=>by rw [←hgs];exact q27 hinv h1 h2
 obtain⟨steps,hsteps⟩:=ex (qf6 g0 sF sN r first);have hstl: ∀i,i∈steps->i<r.body.length:=fun i hi=>(hal i).1 (by rw [←hsteps] at hi;exact hi);have hstfew:steps.length<=1073741824:=by
  have h1:=(qns (sizes:=qdk r.body (qdi g0 sF sN r.body)) (first:=first) ?_ hr.safe hf r.body.length (Nat.le_refl _)).stp
  ·have h2:steps.length=r.body.length:=by rw [←hsteps];unfold qf6 qgq;rw [length_map,h1]
   obtain⟨_,_,_,hbl,_⟩:=hj.body;omega
  ·have:=qhg hinv sF sN hr first hf
   unfold qd3 at this;cases hu:qbu (qdk r.body (qdi g0 sF sN r.body)) with
   |true=>rfl
   |false=>rw [hu,hr.formed] at this;exact absurd this (by simp)
 rw [hsteps]at hown p5
 let c:WkC:=⟨r,qak r,qdi g0 sF sN r.body,steps,J,l,Bj,By,Bl,Lk,Bs,Bv,V,Bk,KK,Bt,Bu,Bp,.slice ao steps.length co,pos,vha,vb,vv,va,vt,vh⟩
 have hll:(qdi g0 sF sN r.body).length=r.body.length:=qko _ _ _ _;have hheld:WkHeld c gs (List.replicate (qak r).length ⟨#[]⟩) (List.replicate (qak r).length false):=by
  refine⟨⟨hnew l1 p1,nv p1 (by decide) (by decide)⟩,⟨hnew l2 p2,nv p2 (by decide) (by decide)⟩,⟨?_,nv p3 (by decide) (by decide)⟩,⟨hnew l4 p4,nv p4 (by decide) (by decide)⟩,⟨hnew l5 p5,nv p5 (by decide) (by decide)⟩,?_,⟨?_,nv p8 (by decide) (by decide)⟩,⟨?_,nv p9 (by decide) (by decide)⟩,⟨hnew l10 p10,nv p10 (by decide) (by decide)⟩,⟨hnew l11 p11,nv p11 (by decide) (by decide)⟩,⟨hnew l12 p12,nv p12 (by decide) (by decide)⟩,?_,?_,hvk⟩
  ·show gs.held Bl=some (.cells #[.slice (some ⟨Lk,0,none⟩) (qdi g0 sF sN r.body).length (qdi g0 sF sN r.body).length] 153 (0,0));rw [hll];exact hnew l3 p3
  ·rcases hown.2 with e |⟨gb,cap,cur,e1,e2,e3,e4,e5,e6,e7⟩
   ·obtain⟨e1,e2⟩:=e;injection e1 with e1 e3 e4
    subst e1;refine⟨none,co,rfl,⟨by show steps.length<=co;omega,by rw [e4];simp [maxLen]⟩,fun k i hi=>?_⟩;have:=(List.getElem?_eq_some_iff.1 hi).1;have h2:steps.length=0:=e2;exact absurd this (by show ¬k<steps.length;omega)
   ·injection e1 with e1 _ e4'
    subst e1;subst e4';refine⟨_,_,rfl,⟨e4,e5⟩,fun k i hi=>⟨gb,rfl,nv e3 (by decide) (by decide),cur,hnew e2 e3,?_⟩⟩;have hk:(cur.toList.take (steps.length*1))[k]?=some (.int .i64 (i:Int)):=by rw [e7,getElem?_map,show steps[k]?=some i from hi];rfl
    rw [getElem?_take_of_lt (by have:=(List.getElem?_eq_some_iff.1 hi).1;have h2:k<steps.length:=this;omega),Array.getElem?_toList]at hk;exact hk
  ·rw [length_replicate];exact hnew l8 p8
  ·rw [length_replicate];exact hnew l9 p9
  ·rw [←hmade2];exact hnew l6 p6
  ·rw [←hmade];exact hnew l7 p7
 have hE:qdv n0 W.heap.size W0 c (qda g0 sF sN r.body) U nU (EachV U nU n0 W0) (qef g0 sF sN r first) (fun k γ X=>Jp k γ X/\qeq Ss γ) (fun k γ X=>Jx k γ X/\qeq Ss γ):=by
  obtain⟨_,_,_,hvl,_⟩:=hj.vrow;refine⟨fun k γ X γ' Y h hs=>⟨hJ k γ X γ' Y h.1 hs,by intro S hS;rw [hs.2];exact h.2 S hS⟩,fun k γ X γ' Y h hs=>⟨hJx k γ X γ' Y h.1 hs,by intro S hS;rw [hs.2];exact h.2 S hS⟩,fun k γ X0 X args b hb hJ0 his hi hVX hn hT=>?_,hj,fun X hX=>⟨hX.1,hX.2.1⟩,fun X Y C hX hKC hC=>hX.keep hUn hKC hC,hUn,hn0,Nat.le_trans hn0 l6,Nat.le_trans hn0 l7,hvl,?_,hkinds,fun L t hL ht=>q5q hr hL ht,fun t ht=>q5r ht,hr.small,hr.preds,hll,?_,hstl,hstfew,qx4 hst hsS sN r.body⟩
  ·have:=hround k γ X0 X args (List.getElem?_eq_some_iff.1 hb).1 hJ0.1 his ⟨hi,hJ0.2⟩ hVX hn ⟨b,hb,hT⟩;refine this.mono ?_;rintro e Y ⟨γ',h1,h2,h3,h4,h5⟩;refine⟨γ',h1.1,h2,h3,h4,?_⟩;rcases h5 with ⟨e1,h5⟩ |⟨e1,h5⟩
   ·exact .inl ⟨e1,h5,h1.2⟩
   ·exact .inr ⟨e1,h5,h1.2⟩
  ·show(qak r).Nodup;unfold qak;exact qkp _
  ·show(qdi g0 sF sN r.body).length<=_;rw [hll];obtain⟨_,_,_,hbl,_⟩:=hj.body;exact hbl
 have hstO:qeq Ss gs:=by intro S hS;rw [hgst];exact hst S hS
 have hA:StepAt W.heap.size c (qda g0 sF sN r.body) U (EachV U nU n0 W0) (qef g0 sF sN r first) (fun k γ X=>Jp k γ X/\qeq Ss γ) 0 0 gs X qb3 (List.replicate (qak r).length ⟨#[]⟩) (List.replicate (qak r).length false):=by
  refine⟨hstep.inv,hV.keep hUn hK (fun _ _=>trivial),fun b hb=>hstep.new b (by have:=hUn b hb;have:=hV.2.1;omega) (hU b hb),hheld,?_,q5f,?_,fun x hx=>.inr ?_,fun q b hb=>?_,⟨hJ _ _ _ _ _ h0 ⟨hstep,hgst⟩,hstO⟩,hK.size⟩
  ·exact(q5s hst hsS hsN (c:=c) rfl hok).more (fun S f hS=>⟨[],by rw [hgst,append_nil];exact hS⟩)
  ·rw [qfx,drop_zero];show qgn r.body steps _;rw [←hsteps];exact hway
  ·rw [drop_zero];show x∈qw r.body steps;rw [←hsteps];exact q3m hinv hr hf hx
  ·rw [Nat.zero_add];rw [drop_zero]at hb;have:(qbh (qda g0 sF sN r.body) r.body steps qb3)[q]?=some b:=hb;rw [←hsteps]at this;exact this
 have hcall:=q2u hE steps.length 0 (by show 0+steps.length=steps.length;omega) 0 gs X qb3 _ _ hA;refine hcall.mono ?_;rintro e W' ⟨ans,rfl,g',vals',h1,h2,h3,h4,h5,h6,h7,h8,h9⟩;refine⟨⟨_,rfl⟩,Nat.le_trans hK.size h4,?_⟩;rcases h9 with ⟨-,h9,h10⟩ |⟨-,k,hk,h9,h10⟩
 ·refine⟨g',⟨h1,h10⟩,h2,.inl ?_⟩;have e:(qbh (qda g0 sF sN r.body) c.r.body (c.steps.drop 0) qb3).length=(qef g0 sF sN r first).length:=by
   rw [drop_zero];show(qbh (qda g0 sF sN r.body) r.body steps qb3).length=_;rw [←hsteps]
   rfl
  rw [e,Nat.zero_add]at h9;exact h9
 ·exact⟨g',⟨h1,h10⟩,h2,.inr ⟨k,hk,h9⟩⟩
end Go.Proofs
