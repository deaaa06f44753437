/- Parts of the proof. -/
import Derived.Test.YtnponcjnahicnaaGreatDoorProg
import Derived.Test.YtnponcjnahicnaaGreatDoorHoistRToMapE
import Derived.Laws.Cover3
set_option linter.unusedSimpArgs false
set_option linter.unusedVariables false
set_option maxRecDepth 100000
set_option maxHeartbeats 4000000
open Go.Proofs.Tryz(prog)
open List(all_append append_inj drop_replicate getElem?_set_self map_replicate nil_append singleton_append take_set_of_le take_zero)
namespace Go.Ink
open Go.RowKit
structure qfp (Γ:Type) where
 inv:Γ->World->Prop
 free:Γ->Nat->Prop
 istep:Γ->World->Γ->World->Prop
 bstep:Γ->Nat->Γ->Prop
 ifree: ∀{γ X γ' Y},istep γ X γ' Y->Keep (free γ) X Y
 inew: ∀{γ X γ' Y},istep γ X γ' Y-> ∀b,b<X.heap.size->free γ b->free γ' b
 bnew: ∀{γ n γ'},bstep γ n γ'-> ∀b,b<n->free γ b->free γ' b
 bmono: ∀{γ n n0 γ'},n0<=n->bstep γ n γ'->bstep γ n0 γ'
 invk: ∀{γ X Y},inv γ X->Keep (fun b=> ¬free γ b) X Y->inv γ Y
variable {Γ : Type}
def qhg (Sy:qfp Γ)(V:World->Prop)(J Jx:Nat->Γ->World->Prop)(k:Nat)(γ:Γ)(X:World)(e:Ending)(Y:World):Prop:=
 ∃γ',Sy.inv γ' Y/\V Y/\Sy.bstep γ X.heap.size γ'/\X.heap.size<=Y.heap.size/\((e=.returned (.bool true)/\J (k+1) γ' Y)∨(e=.returned (.bool false)/\Jx k γ' Y))
def qkr (P:Program)(g:Nat)(lb:Array Value)(Sy:qfp Γ)(N:Γ->Nat)(A:Γ->Nat->Γ->Nat->World->Array Value->Prop)(V:World->Prop)(U:Nat->Prop):Prop:=
 ∀(l:Nat) (J Jx:Nat->Γ->World->Prop) (W:World) (γ0:Γ),l<W.heap.size->Sy.inv γ0 W->V W->(∀b,U b->Sy.free γ0 b)->
  (∀k γ X γ' Y,J k γ X->Sy.istep γ X γ' Y->J k γ' Y)->
  (∀k γ X γ' Y,Jx k γ X->Sy.istep γ X γ' Y->Jx k γ' Y)->
  (∀k γ X0 X args,k<N γ0->J k γ X0->Sy.istep γ X0 γ X->Sy.inv γ X->V X->W.heap.size<=X0.heap.size->A γ0 k γ X0.heap.size X args->YieldAt Fence.wide 0 P l args X (qhg Sy V J Jx k γ X))->
  J 0 γ0 W->
  Calls P g (#[.func (.yield l) #[] #[]]++lb) W fun e W'=>(∃v,e=.returned v)/\W.heap.size<=W'.heap.size/\
   ∃γ',Sy.inv γ' W'/\V W'/\(J (N γ0) γ' W'∨ ∃k,k<N γ0/\Jx k γ' W')
def qes (Sy:qfp Γ)(B l n:Nat)(V:World->Prop)(γ:Γ)(Y0 Y:World)(R:Γ->Prop):Prop:=
 ∃γ',Sy.inv γ' Y/\V Y/\Sy.bstep γ n γ'/\Keep (fun b=>B<=b/\b<=l) Y0 Y/\R γ'
def q47 (Sy:qfp Γ)(B l n:Nat)(V:World->Prop)(I:Nat->Γ->World->Prop)(Ix:Code->Nat->Γ->World->Prop)(k:Nat)(γ:Γ)(Y0:World):Exit->Act->World->Prop
 |.normal,_,Y=>qes Sy B l n V γ Y0 Y fun γ'=>I (k+1) γ' Y
 |.ret,_,Y=>qes Sy B l n V γ Y0 Y fun γ'=>Ix .ret k γ' Y
 |.exit id,_,Y=>qes Sy B l n V γ Y0 Y fun γ'=>Ix (.exit id) k γ' Y
 |.goto t,_,Y=>qes Sy B l n V γ Y0 Y fun γ'=>Ix (.goto t) k γ' Y
 |.panic _,_,_=>False
 |.outgrown,_,_=>False
def qvk (Sy:qfp Γ)(P:Program)(l B:Nat)(body:Code)(V:World->Prop)(I:Nat->Γ->World->Prop)(Ix:Code->Nat->Γ->World->Prop)(k:Nat)(γ:Γ)(X:World)(a₁:Act)(X₁:World):Prop:=
 Keep (fun b=>b<X.heap.size) X X₁/\
  ∀Y,Keep (fun b=>b≠l) X₁ Y->Y.heap.size=X₁.heap.size->(∃r,Y.heap[l]?=some (.loop r))->body.wpIn (inR l) 0 P (q47 Sy B l X.heap.size V I Ix k γ Y) a₁ Y
theorem qyx {P:Program}{fn:FuncId}{l B:Nat}{rec:LoopState->Option Code->Loop}{tmps0:Array Value}{ps:Array Tmp}{assign body:Code}{df:Nat}(m:qfp Γ)
  (i:rec=fun st pe=>{state:=st,pending:=pe,fn:=fn,tmps:=tmps0,params:=ps,assign:=assign,body:=body,defers:=df})
  (hlB:B<=l) {args:Array Value} (hps:args.size=ps.size) {V:World->Prop} (hVst: ∀X Y,V X->Keep (fun b=>b<B) X Y->V Y)
  {I:Nat->Γ->World->Prop} {Ix:Code->Nat->Γ->World->Prop}
  (hI: ∀k γ X Y,I k γ X->Keep (fun b=>b≠l) X Y->I k γ Y) (hIx: ∀c k γ X Y,Ix c k γ X->Keep (fun b=>b≠l) X Y->Ix c k γ Y)
  (X:World) (k:Nat) (γ:Γ) (hfl:m.free γ l) (hl:X.heap[l]?=some (.loop (rec .ready none)))
  (hround:assign.wpIn (inR l) 0 P (Exit.then (qvk m P l B body V I Ix k γ X) (fun _ _ _=>False)) {tmps:=(ps.zip args).foldl (fun t (p,v)=>t.setIfInBounds p v) tmps0,defers:= []} X):
  YieldAt Fence.wide 0 P l args X (qhg m V
   (fun k γ W=>I k γ W/\m.free γ l/\W.heap[l]?=some (.loop (rec .ready none)))
   (fun k γ W=> ∃c,Ix c k γ W/\m.free γ l/\W.heap[l]?=some (.loop (rec .done (some c)))) k γ X):=by
 have hy:=run_yield (P:=P) (args:=args) hl (by rw [i];exact hps);rw [i]at hy;have z:=qe hl;refine⟨fn,_,assign,body,hy,roundIn_of_wpIn (F:=Fence.wide) trivial (xq hround ?_)⟩;intro e a₁ X₁ he;cases e with
 |normal=>
  obtain⟨ai,hb⟩:=he;have y:X₁.heap[l]?=some (.loop (rec .ready none)):=ai.heap hl z;refine⟨_,run_beginRound y (by rw [i]),?_⟩;have ab:(X₁.putObj l (.loop {rec .ready none with state:=.busy})).heap[l]?=some (.loop {rec .ready none with state:=.busy}):=yy (qe y);have aa:Keep (fun b=>b≠l) X₁ (X₁.putObj l (.loop {rec .ready none with state:=.busy})):=Keep.putObj _ _ _ wB;refine xq (hb _ aa wB ⟨_,ab⟩) ?_;generalize hY0:X₁.putObj l (.loop {rec .ready none with state:=.busy})=Y0 at ab aa;clear hY0 hb;have r: ∀(f:Option Code) (Y:World) (R:Γ->Prop),qes m B l X.heap.size V γ Y0 Y R->
    ∃q,(Instr.endRound l f).run P Y=.ok (.bool f.isNone) q/\q.heap[l]?=some (.loop (rec (if f.isNone then .ready else .done) f))/\Keep (fun b=>b≠l) Y q/\
    ∃j,m.inv j q/\V q/\m.bstep γ X.heap.size j/\X.heap.size<=q.heap.size/\m.free j l/\R j:=by
   rintro f Y R ⟨j,hinv,u,d,hK,s⟩;have aj:Y.heap[l]?=some (.loop {rec .ready none with state:=.busy}):=hK.heap ab ⟨hlB,zG _⟩;have:=run_endRound (P:=P) f aj;have x:=m.bnew d l z hfl;refine⟨_,this,?_,Keep.putObj _ _ _ wB,j,m.invk hinv (Keep.putObj _ _ _ (by simpa using x)),hVst _ _ u (Keep.putObj _ _ _ (by simp;omega)),d,?_,x,s⟩
   ·rw [yy (qe aj)];subst i;rfl
   ·have h1:=ai.size;have h2:=aa.size;have h3:=hK.size;simp;omega
  rintro e a3 Y hp;cases e with
  |normal=>
   obtain⟨q,hr,h,g,j,hinv,u,d,hz,U,s⟩:=r none Y _ hp;exact⟨_,_,hr,j,hinv,u,d,hz,.inl ⟨rfl,hI _ _ _ _ s g,U,h⟩⟩
  |ret=>
   obtain⟨q,hr,h,g,j,hinv,u,d,hz,U,s⟩:=r (some .ret) Y _ hp;exact⟨_,_,hr,j,hinv,u,d,hz,.inr ⟨rfl,.ret,hIx _ _ _ _ _ s g,U,h⟩⟩
  |exit id=>
   obtain⟨q,hr,h,g,j,hinv,u,d,hz,U,s⟩:=r (some (.exit id)) Y _ hp;exact⟨_,_,hr,j,hinv,u,d,hz,.inr ⟨rfl,.exit id,hIx _ _ _ _ _ s g,U,h⟩⟩
  |goto t=>
   obtain⟨q,hr,h,g,j,hinv,u,d,hz,U,s⟩:=r (some (.goto t)) Y _ hp;exact⟨_,_,hr,j,hinv,u,d,hz,.inr ⟨rfl,.goto t,hIx _ _ _ _ _ s g,U,h⟩⟩
  |panic ch=>exact hp.elim
  |outgrown=>exact hp.elim
 |ret=>exact he.elim
 |exit id=>exact he.elim
 |goto t=>exact he.elim
 |panic c=>exact he.elim
 |outgrown=>exact he.elim
theorem ql6 {P:Program}{g:Operand}{ps:Array Tmp}{assign body:Code}{Q:Exit->Act->World->Prop}{a:Act}{w:World}(d:qfp Γ)(q:Γ)
  {gf:Nat} {lb:Array Value} (hg:a.eval g=.func (.func gf) #[] lb) (eg: ∀args w,(callFunc gf args).run P w=.ok (.enter gf args) w)
  {N:Γ->Nat} {A:Γ->Nat->Γ->Nat->World->Array Value->Prop} {V:World->Prop} {U:Nat->Prop} (az:qkr P gf lb d N A V U) (hU: ∀b,U b->d.free q b) (aB: ∀q k γ n X args,A q k γ n X args->args.size=ps.size)
  (y:d.inv q w) (m: ∀b,w.heap.size<=b->d.free q b) (ar:V w) (i: ∀X Y,V X->Keep (fun b=>b<w.heap.size) X Y->V Y)
  (I:Nat->Γ->World->Prop) (Ix:Code->Nat->Γ->World->Prop)
  (hI: ∀k γ X Y,I k γ X->Keep (fun b=>b<w.heap.size∨w.heap.size+2<=b) X Y->I k γ Y) (af: ∀c k γ X Y,Ix c k γ X->Keep (fun b=>b<w.heap.size∨w.heap.size+2<=b) X Y->Ix c k γ Y)
  (ae: ∀k γ X γ' Y,I k γ X->d.istep γ X γ' Y->I k γ' Y) (ag: ∀c k γ X γ' Y,Ix c k γ X->d.istep γ X γ' Y->Ix c k γ' Y)
  (h0:I 0 q w)
  (x: ∀l k γ X0 X args,w.heap.size<=l->l<X0.heap.size->(d.free γ l/\d.free γ w.heap.size/\l=w.heap.size+1)->k<N q->I k γ X0->d.istep γ X0 γ X->d.inv γ X->V X->w.heap.size+2<=X0.heap.size->A q k γ X0.heap.size X args->assign.wpIn (inR l) 0 P (Exit.then (qvk d P l w.heap.size body V I Ix k γ X) (fun _ _ _=>False)) {tmps:=(ps.zip args).foldl (fun t (p,v)=>t.setIfInBounds p v) a.tmps,defers:= []} X)
  (hdone: ∀D γ W,(w.heap.size<=D/\D<=w.heap.size)->d.free γ D->W.heap[D]?=some (.deferred (some []))->w.heap.size<=W.heap.size->I (N q) γ W->d.inv γ W->V W->Q .normal {a with defers:={target:=.collected D,args:= #[]}::a.defers} W)
  (hstop: ∀D c k γ W,(w.heap.size<=D/\D<=w.heap.size)->d.free γ D->W.heap[D]?=some (.deferred (some []))->w.heap.size<=W.heap.size->k<N q->Ix c k γ W->d.inv γ W->V W->c.wpIn Fence.wide 0 P Q {a with defers:={target:=.collected D,args:= #[]}::a.defers} W):
  (Code.rangeFunc g ps assign body).wpIn Fence.wide 0 P Q a w:=by
 obtain⟨W1,r⟩:=ex ((w.alloc (.deferred (some []))).alloc (.deferred (some [])));have aC:W1.heap.size=w.heap.size+2:=by rw [←r];simp
 have ao:W1.heap[w.heap.size]?=some (.deferred (some [])):=by
  rw [←r];exact(xL _ _ _ wB).trans (xM w _)
 have u:wD w W1:=by rw [←r];exact(Keep.alloc _ w _).trans kAl
 refine wpIn_rangeFunc ?_;intro fn _;obtain⟨W2,am,ak,aT,aA,al⟩: ∃W1',(Instr.enterLoop fn a.tmps ps assign body Fence.wide.round).run P w=.ok (w.heap.size+1,[{target:=.collected w.heap.size,args:= #[]}]) W1'/\wD w W1'/\W1'.heap.size=W1.heap.size/\
    W1'.heap[w.heap.size+1]?=some (.loop {state:=.ready,pending:=none,fn:=fn,tmps:=a.tmps,params:=ps,assign:=assign,body:=body,defers:=w.heap.size})/\Keep (fun b=>b≠w.heap.size+1) W1 W1':=by
  refine⟨_,run_enterLoop_outer _ _ _ _ _,(Keep.alloc _ w _).trans kAl,by rw [aC];simp,?_,?_⟩
  ·have:=xM (w.alloc (.deferred (some []))) (.loop {state:=.ready,pending:=none,fn:=fn,tmps:=a.tmps,params:=ps,assign:=assign,body:=body,defers:=w.heap.size})
   rwa [zO] at this
  ·rw [←r];refine⟨rfl,rfl,rfl,wB,fun k hk hC=>?_⟩;have aj:k<(w.alloc (.deferred (some []))).heap.size:=by simp at hk⊢;omega
   rw [xL _ _ _ aj,xL _ _ _ aj]
 refine⟨w.heap.size+1,_,W2,{target:=.fn (.func gf) lb,args:= #[.func (.yield (w.heap.size+1)) #[] #[]]},W2,gf,#[.func (.yield (w.heap.size+1)) #[] #[]]++lb,W2,am,?_,fun f' _=>wE,?_,fun h=>by have aq:Fence.wide.depth=none:=rfl;simp [aq] at h,?_⟩
 ·simp only [resolve,hg];simp [go_sem]
 ·simp [invoke,go_sem,eg]
 ·have ap:W2.heap[w.heap.size]?=some (.deferred (some [])):=al.heap ao xz;have s:=az (w.heap.size+1)
   (fun k γ W=>(I k γ W/\d.free γ w.heap.size/\W.heap[w.heap.size]?=some (.deferred (some [])))/\d.free γ (w.heap.size+1)/\W.heap[w.heap.size+1]?=some (.loop {state:=.ready,pending:=none,fn:=fn,tmps:=a.tmps,params:=ps,assign:=assign,body:=body,defers:=w.heap.size}))
   (fun k γ W=> ∃c,(Ix c k γ W/\d.free γ w.heap.size/\W.heap[w.heap.size]?=some (.deferred (some [])))/\d.free γ (w.heap.size+1)/\W.heap[w.heap.size+1]?=some (.loop {state:=.done,pending:=some c,fn:=fn,tmps:=a.tmps,params:=ps,assign:=assign,body:=body,defers:=w.heap.size}))
   W2 q xz (d.invk y ak.mt) (i _ _ ar ak.mt) hU
   (fun k γ X γ' Y h j=>⟨⟨ae k γ X γ' Y h.1.1 j,d.inew j _ (qe h.1.2.2) h.1.2.1,(d.ifree j).heap h.1.2.2 h.1.2.1⟩,d.inew j _ (qe h.2.2) h.2.1,(d.ifree j).heap h.2.2 h.2.1⟩)
   (fun k γ X γ' Y h j=>by
    obtain⟨c,h1,h2,h3⟩:=h;exact⟨c,⟨ag c k γ X γ' Y h1.1 j,d.inew j _ (qe h1.2.2) h1.2.1,(d.ifree j).heap h1.2.2 h1.2.1⟩,d.inew j _ (qe h3) h2,(d.ifree j).heap h3 h2⟩)
   (fun k γ X0 X args hk h00 hist hinv hV z hA=>by
    have h:(I k γ X/\d.free γ w.heap.size/\X.heap[w.heap.size]?=some (.deferred (some [])))/\d.free γ (w.heap.size+1)/\X.heap[w.heap.size+1]?=some (.loop {state:=.ready,pending:=none,fn:=fn,tmps:=a.tmps,params:=ps,assign:=assign,body:=body,defers:=w.heap.size}):=⟨⟨ae k γ X0 γ X h00.1.1 hist,h00.1.2.1,(d.ifree hist).heap h00.1.2.2 h00.1.2.1⟩,h00.2.1,(d.ifree hist).heap h00.2.2 h00.2.1⟩;have:=qyx (P:=P) (fn:=fn) (l:=w.heap.size+1) (B:=w.heap.size) (tmps0:=a.tmps) (ps:=ps) (assign:=assign) (body:=body) (df:=w.heap.size) d
     (rec:=fun st pe=>{state:=st,pending:=pe,fn:=fn,tmps:=a.tmps,params:=ps,assign:=assign,body:=body,defers:=w.heap.size}) rfl xz (aB _ _ _ _ _ _ hA) i
     (I:=fun k γ W=>I k γ W/\d.free γ w.heap.size/\W.heap[w.heap.size]?=some (.deferred (some [])))
     (Ix:=fun c k γ W=>Ix c k γ W/\d.free γ w.heap.size/\W.heap[w.heap.size]?=some (.deferred (some [])))
     (fun k γ X Y h hK=>⟨hI k γ X Y h.1 (hK.mono fun b _ h=>xz),h.2.1,hK.heap h.2.2 xz⟩)
     (fun c k γ X Y h hK=>⟨af c k γ X Y h.1 (hK.mono fun b _ h=>xz),h.2.1,hK.heap h.2.2 xz⟩)
     X k γ h.2.1 h.2.2 (by
      refine xq (x (w.heap.size+1) k γ X0 X args xz (qe h00.2.2) ⟨h.2.1,h.1.2.1,rfl⟩ hk h00.1.1 hist hinv hV xz hA) ?_;intro e a₁ X₁ he;cases e with
      |normal=>
       obtain⟨u,hb⟩:=he;refine⟨u,fun Y hY j hl=>xq (hb Y hY j hl) ?_⟩;have au:Y.heap[w.heap.size]?=some (.deferred (some [])):=hY.heap (u.heap h.1.2.2 (by have:=qe h.1.2.2;omega)) xz;have f: ∀(R:Γ->Prop) (Z:World),qes d w.heap.size (w.heap.size+1) X.heap.size V γ Y Z R->qes d w.heap.size (w.heap.size+1) X.heap.size V γ Y Z (fun γ'=>R γ'/\d.free γ' w.heap.size/\Z.heap[w.heap.size]?=some (.deferred (some []))):=by
        rintro R Z ⟨γ',q1,q2,q3,q4,q5⟩;exact⟨γ',q1,q2,q3,q4,q5,d.bnew q3 _ (qe h.1.2.2) h.1.2.1,q4.heap au ⟨zG _,xz⟩⟩
       rintro e' a' Z z;cases e' with
       |normal=>exact f _ _ z
       |ret=>exact f _ _ z
       |exit id=>exact f _ _ z
       |goto t=>exact f _ _ z
       |panic c=>exact z.elim
       |outgrown=>exact z.elim
      |ret=>exact he.elim
      |exit id=>exact he.elim
      |goto t=>exact he.elim
      |panic c=>exact he.elim
      |outgrown=>exact he.elim)
    exact this)
   ⟨⟨hI _ _ _ _ (hI _ _ _ _ h0 u.mt) (al.mono fun b _ h=>xz),m _ (zG _),ap⟩,m _ xz,aA⟩
  have av:Calls P gf (#[.func (.yield (w.heap.size+1)) #[] #[]]++lb) W2 (rangePost Fence.wide 0 P (w.heap.size+1) Q {a with defers:= [{target:=.collected w.heap.size,args:= #[]}]++a.defers}):=by
   refine s.mono ?_;rintro e W3 ⟨⟨v,rfl⟩,aS,γ',hinv,ah,hJ |⟨k,hk,c,hx,hf,hh⟩⟩
   ·obtain⟨⟨hi,ax,hD⟩,hf,hh⟩:=hJ;refine⟨none,_,run_endLoop (P:=P) hh wB,hdone _ γ' _ ⟨zG _,zG _⟩ ax ?_ (by simp;omega) (hI _ _ _ _ hi (Keep.putObj _ _ _ xz)) (d.invk hinv (Keep.putObj _ _ _ (by simpa using hf))) (i _ _ ah (Keep.putObj _ _ _ xz))⟩;rw [World.putObj_heap_other xz];exact hD
   ·refine⟨some c,_,run_endLoop (P:=P) hh wB,hstop _ c k γ' _ ⟨zG _,zG _⟩ hx.2.1 ?_ (by simp;omega) hk (af _ _ _ _ _ hx.1 (Keep.putObj _ _ _ xz)) (d.invk hinv (Keep.putObj _ _ _ (by simpa using hf))) (i _ _ ah (Keep.putObj _ _ _ xz))⟩;rw [World.putObj_heap_other xz];exact hx.2.2
  exact zU.2 av
end Go.Ink
namespace Go.Proofs.R4
open Go.RowKit Go.Ink
attribute [local go_sem] Oper.semAt_some
def ic (x:Int):List Value:= [.int .i64 x]
theorem ql7 (l:List Int):l.flatMap ic=l.map (.int .i64):=by
 induction l with
 |nil=>rfl
 |cons a l ih=>simp [ic,ih]
theorem ql8:qb2 prog 125 3 1 8:=qcl (z:=.int .i64 0) wA wA rfl wC wC
theorem qdo {n:Nat}{w w':World}{v:Value}{ss:List Int}(h:qan n w v ss){m:Nat}(hK:Keep (fun k=>k<m) w w')(c:n<=m):qan n w' v ss:=
 h.mono fun _ _ _ b h=>hK.cell h (zk b c)
theorem qop {n b:Nat}{w:World}{v:Value}{ss:List Int}(h:qan n w v ss)(c:n<=b):qan b w v ss:=
 SliceIn.wider h c fun _ _ _ _ h=>h
def qc1 (n:Nat)(t:List Int):Bool:=decide (t.length=n)&&t.all fun x=>decide (0<=x)
def qeg (ts:List (List Int))(t:List Int):Option Nat:=(List.range ts.length).find? fun i=>decide (ts[i]?=some t)
def qkb:Option Nat->Value
 |none=>.tuple #[.int .i64 0,.bool false]
 |some i=>.tuple #[.int .i64 i,.bool true]
def qkc (t cols key:List Int):Bool:=(List.range cols.length).all fun j=>decide (t[(cols.getD j 0).toNat]?=key[j]?)
def qhp (n:Nat)(cols:List Int)(i:Nat):Bool:=decide (0<=cols.getD i 0)&&decide (cols.getD i 0<n)&&(i==0 ||decide (cols.getD (i-1) 0<cols.getD i 0))
def qdf (n:Nat)(cols:List Int):Bool:=(List.range cols.length).all (qhp n cols)
theorem qmu {n:Nat}{b:List Int}(h:qdf n b=true): ∀c,c∈b->0<=c/\c<n:=fun c d=>by
 obtain⟨i,hi⟩:=zw.1 d;have:=yL.1 h i (yh.2 (zA.1 hi).1);simp only [qhp,List.getD,hi,Option.getD_some,zV,zT]at this;exact this.1
def qwq (ts:List (List Int))(cols key:List Int)(lo hi:Int)(i:Nat):Bool:=decide (lo<=(i:Int))&&decide ((i:Int)<hi)&&qkc (ts.getD i []) cols key
def qdy (n:Nat)(ts:List (List Int))(cols key:List Int)(lo hi:Int):List Nat:=
 if (qdf n cols&&decide (key.length=cols.length))=true then (List.range ts.length).filter (qwq ts cols key lo hi) else []
theorem qwr (n:Nat)(ts:List (List Int))(b key:List Int)(lo hi:Int):(qdy n ts b key lo hi).length<=ts.length:=by
 unfold qdy;split
 ·refine zW (yd _ _) ?_;simp
 ·simp
def RowsIn (F:Nat->Prop)(w:World)(B:Nat)(vL:Value)(ts:List (List Int))(svs:List Value):Prop:=
 svs.length=ts.length/\ ∀(j:Nat) (t:List Int),ts[j]?=some t-> ∃a c,svs[j]?=some (.slice a t.length c)/\t.length<=1073741824/\(t.length<=c/\c<=maxLen)/\
  ∀(k:Nat) (x:Int),t[k]?=some x-> ∃b o,a=some ⟨b,o,none⟩/\F b/\b≠B/\vL.ownBlock≠some b/\b<w.heap.size/\w.cell? ⟨b,o+k,none⟩=some (.int .i64 x)
theorem RowsIn.keep {F:Nat->Prop}{w w':World}{B:Nat}{e:Value}{ts:List (List Int)}{d:List Value}{C:Nat->Prop}(h:RowsIn F w B e ts d)(hK:Keep C w w')(v: ∀b,F b->b<w.heap.size->b≠B->e.ownBlock≠some b->C b):RowsIn F w' B e ts d:=by
 refine⟨h.1,fun j t z=>?_⟩;obtain⟨a,c,q,r,s,u⟩:=h.2 j t z;refine⟨a,c,q,r,s,fun k x y=>?_⟩;obtain⟨b,o,m,f,g,i,l,p⟩:=u k x y;exact⟨b,o,m,f,g,i,zk l hK.size,hK.cell p (v b f l g i)⟩
def qhq (n:Nat)(ts:List (List Int))(t:List Int):Int×Bool×Int:=if qc1 n t=true then (match qeg ts t with |some i=>((i:Int),false,0) |none=>((ts.length:Int),true,0)) else (0,false,2)
def qj3 (n:Nat)(ts:List (List Int))(t:List Int):List (List Int):=if (qhq n ts t).2.1=true then ts++ [t] else ts
def qet (n:Nat)(vD:Value)(c P K:Nat):List Value:= [.int .i64 (n:Int),vD,.int .i64 (c:Int),.map (some P),.map (some K)]
theorem q1t (w:World):Calls prog 134 #[.pointer none] w fun e w'=>e=.returned (.bool false)/\w'=w:=by
 go_enter Tryz.func134,Tryz.ntmps134
 go_wp2;go_ret;exact⟨rfl,rfl⟩
theorem qks {w:World}{B n c P K:Nat}{vD:Value}(h:w.heap[B]?=some (.cells (qet n vD c P K).toArray 209 (0,0))):Calls prog 134 #[.pointer (some ⟨B,0,none⟩)] w fun e w'=>e=.returned (.bool true)/\w'=w:=by
 have b:=qb h 3 _ rfl;have f:=qe h;simp only [zD]at b;clear h;have d: ∀w',(binOp .neq 206 (.map (some P)) (.map none)).run prog w'=.ok (.bool true) w':=fun w'=>run_neq_map_nil w' _ _ _ (some P) Tryz.underlying206
 go_enter Tryz.func134,Tryz.ntmps134
 go_wp2;go_ret;exact⟨rfl,rfl⟩
theorem qws (w:World):Calls prog 98 #[.pointer none] w fun e w'=>e=.returned (.int .i64 0)/\w'=w:=by
 go_enter Tryz.func98,Tryz.ntmps98
 go_wp2_with fail;refine(q1t w).mono ?_;rintro e b ⟨rfl,rfl⟩;go_wp2_with fail;go_ret;exact⟨rfl,rfl⟩
theorem qwt {w:World}{B n c P K:Nat}{vD:Value}(h:w.heap[B]?=some (.cells (qet n vD c P K).toArray 209 (0,0))):Calls prog 98 #[.pointer (some ⟨B,0,none⟩)] w fun e w'=>e=.returned (.int .i64 c)/\w'=w:=by
 have d:=qb h 2 _ rfl;have f:=qe h;simp only [zD]at d;refine hd1 ?_ h;clear h;intro b
 go_enter Tryz.func98,Tryz.ntmps98
 go_wp2_with fail;refine(qks b.o).mono ?_;rintro e g ⟨rfl,rfl⟩;go_wp2_with fail;go_ret;exact⟨rfl,rfl⟩
theorem qqf {w:World}{B n c P K:Nat}{vD:Value}(h:w.heap[B]?=some (.cells (qet n vD c P K).toArray 209 (0,0)))(m:Nat)(v:Value)(t:List Int)(Y:qan m w v t)(hm:m<=w.heap.size):
  Calls prog 135 #[.pointer (some ⟨B,0,none⟩),v] w fun e w'=>e=.returned (.bool (qc1 n t))/\wD w w':=by
 obtain⟨a,cc,rfl,hl,hc,he⟩:=id Y;have hB:=qe h;refine hd3 ?_ h Y he;clear h Y he;intro Xh ag R
 go_enter Tryz.func135,Tryz.ntmps135
 go_wp2_with fail
 go_loopw [9] (fun i wr=> ∃k:Nat,k<=t.length/\i=.int .i64 k/\wD w wr/\(t.take k).all (fun x=>decide (0<=x))=true) (fun i _=>t.length-(intOf i).toNat)
 case atStart=>exact⟨0,xz,rfl,Keep.refl _ _,rfl⟩
 case round=>
  obtain⟨k,hk,rfl,hK,d⟩:=hrel;have ae:=hK.size;by_cases X:k<t.length
  ·obtain⟨x,z⟩: ∃x,t[k]?=some x:=⟨_,zB X⟩;obtain⟨b,o,rfl,hb,s⟩:=R.o k x z;have s:=hK.cell s trivial;simp only [yA]at s;have aj:b<wr.heap.size:=by omega
   have ab:(k:Int)<t.length:=xz
   have ak:(0:Int)<=k:=xz
   by_cases ad:x<0
   ·have y:qc1 n t=false:=by
     rw [Bool.eq_false_iff];intro h;simp only [qc1,zV,yL,zT]at h;have:=h.2 x (zH z);omega
    clear d z;refine hd2 ?_ y hK;clear y hK;intro u j;go_wp2_with fail;go_ret;exact⟨by rw [u.o];try rfl,j.o⟩
   ·have p:(t.take (k+1)).all (fun x=>decide (0<=x))=true:=by
     rw [zh,z,all_append,d];simp;omega
    clear d z;refine hd2 ?_ p hK;clear p hK;intro q j;go_wp2_with fail;go_roundw
    case rel=>exact⟨k+1,xz,by go_num,j.o,q.o⟩
    case measure=>simp [intOf];omega
  ·obtain rfl:k=t.length:=by omega
   rw [zi]at d;have r:=hK.heap Xh.o trivial;have c0:=qb r 0 _ rfl;have ai:B<wr.heap.size:=xz
   simp only [zD]at c0;clear r;by_cases g:t.length=n
   ·have f:qc1 n t=true:=by simp only [qc1,d,g];simp
    have U:((t.length:Int)==n)=true:=by simp [g]
    clear d g;refine hd2 ?_ f hK;clear f hK;intro l j;go_wp2_with fail;go_ret;exact⟨by rw [l.o];try rfl,j.o⟩
   ·have f:qc1 n t=false:=by simp [qc1,g]
    have U:((t.length:Int)==n)=false:=by rw [yZ];omega
    clear d g;refine hd2 ?_ f hK;clear f hK;intro l j;go_wp2_with fail;go_ret;exact⟨by rw [l.o];try rfl,j.o⟩
def qay (t:List Int):List Int:=t++List.replicate (16-t.length) 0
def qgu (l:List Int):Value:=.agg (l.map (.int .i64)).toArray
theorem qg6 {t:List Int}(h:t.length<=16):(qay t).length=16:=by simp [qay];omega
theorem qpm {s t:List Int}(h:qay s=qay t)(b:s.length=t.length):s=t:=by
 unfold qay at h;exact(append_inj h b).1
theorem qi3: ∀a b:List Int,qgu a=qgu b->a=b:=by
 intro a b h;unfold qgu at h;injection h with h
 have c:a.map (Value.int .i64)=b.map (.int .i64):=by simpa using yM Array.toList h
 clear h
 induction a generalizing b with
 |nil=>cases b with
  |nil=>rfl
  |cons y b=>simp at c
 |cons x a ih=>cases b with
  |nil=>simp at c
  |cons y b=>
   simp only [yW,List.cons.injEq,Value.int.injEq,true_and]at c;rw [c.1,ih b c.2]
def qgk (b:Nat):List Value->Nat->World->World
 | [],_,w=>w
 |v::vs,i,w=>qgk b vs (i+1) (w.setCell ⟨b,i,none⟩ v)
theorem qoq {b t:Nat}{d:Nat×Nat}: ∀(vs:List Value) (i:Nat) (w:World) (cs:Array Value),w.heap[b]?=some (.cells cs t d)->i+vs.length=cs.size->(qgk b vs i w).heap[b]?=some (.cells (cs.toList.take i++vs).toArray t d)
 | [],i,w,cs,h,hl=>by
  have:i=cs.size:=by simpa using hl
  subst this;rw [qgk,h,yO];rw [yw wB]
 |v::vs,i,w,cs,h,hl=>by
  have c:i+1+vs.length=cs.size:=by simp at hl;omega
  have:=qoq vs (i+1) (w.setCell ⟨b,i,none⟩ v) _ (qz i v h) (by simpa using c);rw [qgk,this];have hi:i<cs.toList.length:=by simp;omega
  simp only [Array.toList_setIfInBounds,zh,take_set_of_le (zG i),getElem?_set_self hi,Option.toList_some,yq,singleton_append]
theorem qgl {b t:Nat}{d:Nat×Nat}{w:World}{c:Array Value}(vs:List Value)(h:w.heap[b]?=some (.cells c t d))(e:vs.length=c.size):(qgk b vs 0 w).heap[b]?=some (.cells vs.toArray t d):=by
 have:=qoq vs 0 w c h xz
 simpa using this
theorem qeh (b:Nat): ∀(vs:List Value) (i:Nat) (w:World),Keep (fun j=>j≠b) w (qgk b vs i w)
 | [],_,_=>Keep.refl _ _
 |v::vs,i,w=>(kSc).trans (qeh b vs (i+1) _)
theorem ql9 (n:Nat)(v:Value)(t:List Int)(w:World)(hs:qan n w v t)(hn:n<=w.heap.size)(hl:t.length<=16):
  Calls prog 136 #[v] w fun e w'=>e=.returned (qgu (qay t))/\Keep (fun k=>k<w.heap.size) w w':=by
 obtain⟨a,c,rfl,bv,bt,ar⟩:=id hs;obtain⟨W0,U⟩:=ex ((w.alloc (.cells #[.int .i64 0,.int .i64 0,.int .i64 0,.int .i64 0,.int .i64 0,.int .i64 0,.int .i64 0,.int .i64 0,.int .i64 0,.int .i64 0,.int .i64 0,.int .i64 0,.int .i64 0,.int .i64 0,.int .i64 0,.int .i64 0] 214)).alloc (.cells #[.int .i64 0,.int .i64 0,.int .i64 0,.int .i64 0,.int .i64 0,.int .i64 0,.int .i64 0,.int .i64 0,.int .i64 0,.int .i64 0,.int .i64 0,.int .i64 0,.int .i64 0,.int .i64 0,.int .i64 0,.int .i64 0] 214));have ao:wD w W0:=by rw [←U];exact kAl.trans kAl
 have s0:W0.heap.size=w.heap.size+1+1:=by rw [←U];simp
 have n1:W0.heap[w.heap.size]?=some (.cells #[.int .i64 0,.int .i64 0,.int .i64 0,.int .i64 0,.int .i64 0,.int .i64 0,.int .i64 0,.int .i64 0,.int .i64 0,.int .i64 0,.int .i64 0,.int .i64 0,.int .i64 0,.int .i64 0,.int .i64 0,.int .i64 0] 214 (0,0)):=by rw [←U];exact qec (qh _ _) _
 have n2:W0.heap[w.heap.size+1]?=some (.cells #[.int .i64 0,.int .i64 0,.int .i64 0,.int .i64 0,.int .i64 0,.int .i64 0,.int .i64 0,.int .i64 0,.int .i64 0,.int .i64 0,.int .i64 0,.int .i64 0,.int .i64 0,.int .i64 0,.int .i64 0,.int .i64 0] 214 (0,0)):=by rw [←U];simp only [qah,zO];simp
 have av:=qdo hs (m:=n) (ao.mt) (zG _);have al:=qfo (sz:=1) ic (fun _=>rfl) xz (E:=qe8) (fun b o x h j u hj=>by
  have aN:j=0:=by have:=(zA.1 hj).1;simp [ic] at this;exact this
  subst aN;simp [ic]at hj;subst hj;exact h) av rfl
 have z:(prog.info? 3).map (·.size)=some 1:=wA
 have am: ∃r W1,(Builtin.copy_ #[125,125] 3 #[.slice (some ⟨w.heap.size+1,0,none⟩) 16 16,.slice a t.length c]).run prog W0=.ok r W1/\W1.heap[w.heap.size+1]?=some (.cells ((qay t).map (.int .i64)).toArray 214 (0,0))/\Keep (fun b=>b≠w.heap.size+1) W0 W1/\W1.heap.size=W0.heap.size:=by
  cases a with
  |none=>
   have ht:t= []:=yn (al.2 rfl);subst ht;exact⟨_,_,run_copy_none W0 _ _ _ _ _ _ _ _ _ _ Tryz.underlying125 z wB,n2,Keep.refl _ _,rfl⟩
  |some ad=>
   have aq:=al.1 ad rfl;rw [ql7]at aq;have hr:=run_copy_row (P:=prog) W0 125 125 3 3 (w.heap.size+1) 0 16 16 ad t.length c _ _ (t.map (.int .i64)) Tryz.underlying125 z n2 (by rw [zL];exact(xP hl).symm) aq (by simp;omega) (by simp [Value.oneCell']);refine⟨_,_,hr,?_,?_,?_⟩
   ·rw [setRow_heap W0 _ _ _ _ _ n2];have hz:([.int .i64 0,.int .i64 0,.int .i64 0,.int .i64 0,.int .i64 0,.int .i64 0,.int .i64 0,.int .i64 0,.int .i64 0,.int .i64 0,.int .i64 0,.int .i64 0,.int .i64 0,.int .i64 0,.int .i64 0,.int .i64 0]:List Value)=List.replicate 16 (.int .i64 0):=rfl;simp only [hz,take_zero,nil_append,zD,zL,drop_replicate,qay,zm,map_replicate]
   ·exact⟨rfl,rfl,rfl,wB,fun k _ hk=>setRow_other _ _ _ _ hk⟩
   ·simp
 obtain⟨rv,W1,bx,ak,an,aO⟩:=am;obtain⟨X,Y,k2,k3,k4,k5,k6,k7,k8,k9,g,i,l,p,q,s,R⟩: ∃X Y k2 k3 k4 k5 k6 k7 k8 k9 g i l p q s,qay t= [X,Y,k2,k3,k4,k5,k6,k7,k8,k9,g,i,l,p,q,s]:=by
  have au:=qg6 hl
  match h:qay t,au with
  | [X,Y,k2,k3,k4,k5,k6,k7,k8,k9,g,i,l,p,q,s],_=>exact⟨X,Y,k2,k3,k4,k5,k6,k7,k8,k9,g,i,l,p,q,s,rfl⟩
 rw [R]at ak;rw [R];have f:W1.heap[w.heap.size+1]?=some (.cells #[.int .i64 X,.int .i64 Y,.int .i64 k2,.int .i64 k3,.int .i64 k4,.int .i64 k5,.int .i64 k6,.int .i64 k7,.int .i64 k8,.int .i64 k9,.int .i64 g,.int .i64 i,.int .i64 l,.int .i64 p,.int .i64 q,.int .i64 s] 214 (0,0)):=ak;have d:=an.heap n1 xz;have c0:=qb f 0 _ rfl;have z0:=qb d 0 _ rfl;have f0:=qg d 0;have c1:=qb f 1 _ rfl;have z1:=qb d 1 _ rfl;have f1:=qg d 1;have c2:=qb f 2 _ rfl;have z2:=qb d 2 _ rfl;have f2:=qg d 2;have c3:=qb f 3 _ rfl;have z3:=qb d 3 _ rfl;have f3:=qg d 3;have c4:=qb f 4 _ rfl;have z4:=qb d 4 _ rfl;have f4:=qg d 4;have c5:=qb f 5 _ rfl;have z5:=qb d 5 _ rfl;have f5:=qg d 5;have c6:=qb f 6 _ rfl;have z6:=qb d 6 _ rfl;have f6:=qg d 6;have c7:=qb f 7 _ rfl;have z7:=qb d 7 _ rfl;have f7:=qg d 7;have c8:=qb f 8 _ rfl;have z8:=qb d 8 _ rfl;have f8:=qg d 8;have c9:=qb f 9 _ rfl;have z9:=qb d 9 _ rfl;have f9:=qg d 9;have aG:=qb f 10 _ rfl;have aP:=qb d 10 _ rfl;have bm:=qg d 10;have aH:=qb f 11 _ rfl;have aQ:=qb d 11 _ rfl;have bn:=qg d 11;have aI:=qb f 12 _ rfl;have aR:=qb d 12 _ rfl;have bo:=qg d 12;have aJ:=qb f 13 _ rfl;have aS:=qb d 13 _ rfl;have bp:=qg d 13;have aK:=qb f 14 _ rfl;have aT:=qb d 14 _ rfl;have bq:=qg d 14;have aL:=qb f 15 _ rfl;have aU:=qb d 15 _ rfl;have br:=qg d 15;simp only [zD]at c0 z0 c1 z1 c2 z2 c3 z3 c4 z4 c5 z5 c6 z6 c7 z7 c8 z8 c9 z9 aG aP aH aQ aI aR aJ aS aK aT aL aU;have l1:w.heap.size<W1.heap.size:=xz
 have l2:w.heap.size+1<W1.heap.size:=xz
 have kw:Keep (fun k=>k<w.heap.size) w W1:=(ao.mt).trans (an.mono fun b _ h=>xz);clear al av z n1 n2 ak ao an R aO;refine hd5 ?_ hs ar d f kw;clear hs ar d f kw;intro a9 aV ap aD aF
 go_enter Tryz.func136,Tryz.ntmps136
 go_wp2_with fail;refine qi1 (fun W=>W.heap[w.heap.size]?=some (.cells #[.int .i64 X,.int .i64 Y,.int .i64 k2,.int .i64 k3,.int .i64 k4,.int .i64 k5,.int .i64 k6,.int .i64 k7,.int .i64 k8,.int .i64 k9,.int .i64 g,.int .i64 i,.int .i64 l,.int .i64 p,.int .i64 q,.int .i64 s] 214 (0,0))/\Keep (fun k=>k<w.heap.size) w W) (w:=qgk w.heap.size [.int .i64 X,.int .i64 Y,.int .i64 k2,.int .i64 k3,.int .i64 k4,.int .i64 k5,.int .i64 k6,.int .i64 k7,.int .i64 k8,.int .i64 k9,.int .i64 g,.int .i64 i,.int .i64 l,.int .i64 p,.int .i64 q,.int .i64 s] 0 W1) ⟨qgl [.int .i64 X,.int .i64 Y,.int .i64 k2,.int .i64 k3,.int .i64 k4,.int .i64 k5,.int .i64 k6,.int .i64 k7,.int .i64 k8,.int .i64 k9,.int .i64 g,.int .i64 i,.int .i64 l,.int .i64 p,.int .i64 q,.int .i64 s] ap.o rfl,aF.o.trans ((qeh _ _ _ _).mono (fun b _ h=>xz))⟩ ?_;rintro W2 ⟨y,kq⟩;have r0:=qb y 0 _ rfl;have r1:=qb y 1 _ rfl;have r2:=qb y 2 _ rfl;have r3:=qb y 3 _ rfl;have r4:=qb y 4 _ rfl;have r5:=qb y 5 _ rfl;have r6:=qb y 6 _ rfl;have r7:=qb y 7 _ rfl;have r8:=qb y 8 _ rfl;have r9:=qb y 9 _ rfl;have aw:=qb y 10 _ rfl;have ax:=qb y 11 _ rfl;have ay:=qb y 12 _ rfl;have az:=qb y 13 _ rfl;have aA:=qb y 14 _ rfl;have aB:=qb y 15 _ rfl;simp only [zD]at r0 r1 r2 r3 r4 r5 r6 r7 r8 r9 aw ax ay az aA aB;clear y;refine hd1 ?_ kq;clear kq;intro aE;refine zz (v:=.agg #[.int .i64 X,.int .i64 Y,.int .i64 k2,.int .i64 k3,.int .i64 k4,.int .i64 k5,.int .i64 k6,.int .i64 k7,.int .i64 k8,.int .i64 k9,.int .i64 g,.int .i64 i,.int .i64 l,.int .i64 p,.int .i64 q,.int .i64 s]) (by simp [results,Tryz.results136,go_sem,r0,r1,r2,r3,r4,r5,r6,r7,r8,r9,aw,ax,ay,az,aA,aB]) rfl ⟨rfl,aE.o⟩
end Go.Proofs.R4
