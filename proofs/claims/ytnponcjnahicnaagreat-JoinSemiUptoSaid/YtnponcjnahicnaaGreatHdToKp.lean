/- Parts of the proof. -/
import Derived.Lib.Hide
import Derived.RangeFuncNested
import Derived.RangeFuncBound
import Derived.RangeFuncCalls
import Derived.RangeFuncLeaves
import Derived.WalkKit
import Derived.OwnWalkIn
import Derived.TacticsInMore
import Derived.LoopNIn
import Derived.LoopIn
set_option linter.unusedSimpArgs false
set_option linter.unusedVariables false
open List(append_toArray nodup_cons push_toArray)
namespace Go.RowKit
theorem Hid.o {p:Prop}(h:Hid p):p:=h
end Go.RowKit
namespace Go.Ink
section
variable {A B C D E F G H I J K L M N O P Z : Prop}
theorem hd1 (k:RowKit.Hid A->Z)(a':A):Z:=k a'
theorem hd2 (k:RowKit.Hid A->RowKit.Hid B->Z)(a':A)(b':B):Z:=k a' b'
theorem hd3 (k:RowKit.Hid A->RowKit.Hid B->RowKit.Hid C->Z)(a':A)(b':B)(c':C):Z:=k a' b' c'
theorem hd4 (k:RowKit.Hid A->RowKit.Hid B->RowKit.Hid C->RowKit.Hid D->Z)(a':A)(b':B)(c':C)(d':D):Z:=k a' b' c' d'
theorem hd5 (k:RowKit.Hid A->RowKit.Hid B->RowKit.Hid C->RowKit.Hid D->RowKit.Hid E->Z)(a':A)(b':B)(c':C)(d':D)(e':E):Z:=k a' b' c' d' e'
theorem hd6 (k:RowKit.Hid A->RowKit.Hid B->RowKit.Hid C->RowKit.Hid D->RowKit.Hid E->RowKit.Hid F->Z)(a':A)(b':B)(c':C)(d':D)(e':E)(f':F):Z:=k a' b' c' d' e' f'
theorem hd7 (k:RowKit.Hid A->RowKit.Hid B->RowKit.Hid C->RowKit.Hid D->RowKit.Hid E->RowKit.Hid F->RowKit.Hid G->Z)(a':A)(b':B)(c':C)(d':D)(e':E)(f':F)(g':G):Z:=k a' b' c' d' e' f' g'
theorem hd8 (k:RowKit.Hid A->RowKit.Hid B->RowKit.Hid C->RowKit.Hid D->RowKit.Hid E->RowKit.Hid F->RowKit.Hid G->RowKit.Hid H->Z)(a':A)(b':B)(c':C)(d':D)(e':E)(f':F)(g':G)(h':H):Z:=k a' b' c' d' e' f' g' h'
theorem hd9 (k:RowKit.Hid A->RowKit.Hid B->RowKit.Hid C->RowKit.Hid D->RowKit.Hid E->RowKit.Hid F->RowKit.Hid G->RowKit.Hid H->RowKit.Hid I->Z)(a':A)(b':B)(c':C)(d':D)(e':E)(f':F)(g':G)(h':H)(i':I):Z:=k a' b' c' d' e' f' g' h' i'
theorem qd9 (k:RowKit.Hid A->RowKit.Hid B->RowKit.Hid C->RowKit.Hid D->RowKit.Hid E->RowKit.Hid F->RowKit.Hid G->RowKit.Hid H->RowKit.Hid I->RowKit.Hid J->Z)(a':A)(b':B)(c':C)(d':D)(e':E)(f':F)(g':G)(h':H)(i':I)(j':J):Z:=k a' b' c' d' e' f' g' h' i' j'
theorem qiz (k:RowKit.Hid A->RowKit.Hid B->RowKit.Hid C->RowKit.Hid D->RowKit.Hid E->RowKit.Hid F->RowKit.Hid G->RowKit.Hid H->RowKit.Hid I->RowKit.Hid J->RowKit.Hid K->Z)(a':A)(b':B)(c':C)(d':D)(e':E)(f':F)(g':G)(h':H)(i':I)(j':J)(k':K):Z:=k a' b' c' d' e' f' g' h' i' j' k'
theorem qhe (k:RowKit.Hid A->RowKit.Hid B->RowKit.Hid C->RowKit.Hid D->RowKit.Hid E->RowKit.Hid F->RowKit.Hid G->RowKit.Hid H->RowKit.Hid I->RowKit.Hid J->RowKit.Hid K->RowKit.Hid L->Z)(a':A)(b':B)(c':C)(d':D)(e':E)(f':F)(g':G)(h':H)(i':I)(j':J)(k':K)(l':L):Z:=k a' b' c' d' e' f' g' h' i' j' k' l'
theorem qoh (k:RowKit.Hid A->RowKit.Hid B->RowKit.Hid C->RowKit.Hid D->RowKit.Hid E->RowKit.Hid F->RowKit.Hid G->RowKit.Hid H->RowKit.Hid I->RowKit.Hid J->RowKit.Hid K->RowKit.Hid L->RowKit.Hid M->Z)(a':A)(b':B)(c':C)(d':D)(e':E)(f':F)(g':G)(h':H)(i':I)(j':J)(k':K)(l':L)(m':M):Z:=k a' b' c' d' e' f' g' h' i' j' k' l' m'
theorem qoi (k:RowKit.Hid A->RowKit.Hid B->RowKit.Hid C->RowKit.Hid D->RowKit.Hid E->RowKit.Hid F->RowKit.Hid G->RowKit.Hid H->RowKit.Hid I->RowKit.Hid J->RowKit.Hid K->RowKit.Hid L->RowKit.Hid M->RowKit.Hid N->Z)(a':A)(b':B)(c':C)(d':D)(e':E)(f':F)(g':G)(h':H)(i':I)(j':J)(k':K)(l':L)(m':M)(n':N):Z:=k a' b' c' d' e' f' g' h' i' j' k' l' m' n'
theorem qxu (k:RowKit.Hid A->RowKit.Hid B->RowKit.Hid C->RowKit.Hid D->RowKit.Hid E->RowKit.Hid F->RowKit.Hid G->RowKit.Hid H->RowKit.Hid I->RowKit.Hid J->RowKit.Hid K->RowKit.Hid L->RowKit.Hid M->RowKit.Hid N->RowKit.Hid O->Z)(a':A)(b':B)(c':C)(d':D)(e':E)(f':F)(g':G)(h':H)(i':I)(j':J)(k':K)(l':L)(m':M)(n':N)(o':O):Z:=k a' b' c' d' e' f' g' h' i' j' k' l' m' n' o'
theorem qc5 (k:RowKit.Hid A->RowKit.Hid B->RowKit.Hid C->RowKit.Hid D->RowKit.Hid E->RowKit.Hid F->RowKit.Hid G->RowKit.Hid H->RowKit.Hid I->RowKit.Hid J->RowKit.Hid K->RowKit.Hid L->RowKit.Hid M->RowKit.Hid N->RowKit.Hid O->RowKit.Hid P->Z)(a':A)(b':B)(c':C)(d':D)(e':E)(f':F)(g':G)(h':H)(i':I)(j':J)(k':K)(l':L)(m':M)(n':N)(o':O)(p':P):Z:=k a' b' c' d' e' f' g' h' i' j' k' l' m' n' o' p'
end
theorem qdz:(∀(α:Type) (l:List α),l.toArray.size=l.length)/\(∀(α:Type) (l:List α) (a:α),(a::l).length=l.length+1)/\(∀(α:Type),([]:List α).length=0)/\(∀(α:Type) (n:Nat) (a:α),Array.replicate (n+1) a=(Array.replicate n a).push a)/\(∀(α:Type) (a:α),Array.replicate 0 a= #[])/\
  (∀(α:Type) (l:List α) (a:α),l.toArray.push a=(l++ [a]).toArray)/\(∀(α:Type) (l m:List α),l.toArray++m.toArray=(l++m).toArray)/\(∀(α:Type) (l:List α),[]++l=l)/\(∀(α:Type) (a:α) (l m:List α),(a::l)++m=a::(l++m)):=
 ⟨fun _ _=>rfl,fun _ _ _=>rfl,fun _=>rfl,fun _ _ _=>Array.replicate_succ,fun _ _=>rfl,fun _ _ _=>push_toArray ..,fun _ _ _=>append_toArray ..,fun _ _=>rfl,fun _ _ _ _=>rfl⟩
theorem ex {α:Type}(e:α): ∃x,e=x:=⟨_,rfl⟩
end Go.Ink
namespace Go.Ink
open Go.RowKit
structure Keep (C:Nat->Prop)(w w':World):Prop where
 os:w'.os=w.os
 tape:w'.tape=w.tape
 output:w'.output=w.output
 size:w.heap.size<=w'.heap.size
 block: ∀k,k<w.heap.size->C k->w'.heap[k]?=w.heap[k]?
theorem Keep.refl (C:Nat->Prop)(w:World):Keep C w w:=⟨rfl,rfl,rfl,Nat.le_refl _,fun _ _ _=>rfl⟩
theorem Keep.trans {C:Nat->Prop}{a b c:World}(h:Keep C a b)(k:Keep C b c):Keep C a c:=
 ⟨k.os.trans h.os,k.tape.trans h.tape,k.output.trans h.output,Nat.le_trans h.size k.size,
  fun i hi hC=>(k.block i (Nat.lt_of_lt_of_le hi h.size) hC).trans (h.block i hi hC)⟩
theorem Keep.mono {C C':Nat->Prop}{w w':World}(h:Keep C w w')(hC: ∀k,k<w.heap.size->C' k->C k):Keep C' w w':=
 ⟨h.os,h.tape,h.output,h.size,fun k hk hc=>h.block k hk (hC k hk hc)⟩
theorem Keep.below {B:Nat}{w w':World}(h:Keep (fun k=>k<B) w w')(hB:B<=w.heap.size):Below B w w':=
 ⟨h.os,h.tape,h.output,h.size,fun k hk=>h.block k (by omega) hk⟩
theorem Keep.of_grown {w w':World}{row:Option Nat}(h:w.grownBy w' row):Keep (fun k=>some k≠row) w w':=
 ⟨h.os,h.tape,h.output,h.size,fun k hk hC=>h.block k hk hC⟩
theorem Keep.drew (C:Nat->Prop)(w:World):Keep C w w.drew:=⟨rfl,rfl,rfl,Nat.le_refl _,fun _ _ _=>rfl⟩
theorem Keep.alloc (C:Nat->Prop)(w:World)(o:Obj):Keep C w (w.alloc o):=
 ⟨rfl,rfl,rfl,by simp,fun k hk _=>Below.heap_alloc w o k hk⟩
theorem Keep.setCell {C:Nat->Prop}(w:World)(p:Addr)(u:Value)(hp: ¬C p.block):Keep C w (w.setCell p u):=
 ⟨rfl,rfl,rfl,by simp [World.setCell],fun k hk hC=>Below.heap_setCell _ _ _ _ (fun e=>hp (e▸hC))⟩
theorem Keep.putObj {C:Nat->Prop}(w:World)(l:Nat)(o:Obj)(hp: ¬C l):Keep C w (w.putObj l o):=
 ⟨rfl,rfl,rfl,by simp,fun k hk hC=>World.putObj_heap_other (fun e=>hp (e▸hC))⟩
theorem Keep.heap {C:Nat->Prop}{w w':World}(h:Keep C w w'){k:Nat}{o:Obj}(hk:w.heap[k]?=some o)(hC:C k):w'.heap[k]?=some o:=
 (h.block k (Array.getElem?_eq_some_iff.1 hk).1 hC).trans hk
theorem Keep.cell {C:Nat->Prop}{w w':World}(h:Keep C w w'){a:Addr}{v:Value}(hk:w.cell? a=some v)(hC:C a.block):w'.cell? a=some v:=
 (World.cell?_of_block (h.block a.block (World.block_lt_of_cell? w a hk) hC)).trans hk
theorem qe {w:World}{k:Nat}{o:Obj}(h:w.heap[k]?=some o):k<w.heap.size:=(Array.getElem?_eq_some_iff.1 h).1
abbrev inR (l:Nat):Fence:=Fence.wide.inRound l
def qtd (S:Nat)(V:World->Prop)(J Jx:Nat->(Nat->Prop)->World->Prop)(k:Nat)(O:Nat->Prop)(X:World)(e:Ending)(Y:World):Prop:=
 ∃O':Nat->Prop,(∀b,O b->O' b)/\(∀b,O' b->O b∨(X.heap.size<=b/\b<Y.heap.size))/\Keep (fun b=>S<=b/\ ¬O b) X Y/\V Y/\
  ((e=.returned (.bool true)/\J (k+1) O' Y)∨(e=.returned (.bool false)/\Jx k O' Y))
def qxv (P:Program)(g:Nat)(lb:Array Value)(encs:Nat->Array Value)(N:Nat)(V:World->Prop)(T:Nat->Prop):Prop:=
 ∀(l:Nat) (J Jx:Nat->(Nat->Prop)->World->Prop) (O0:Nat->Prop) (W:World),l<W.heap.size->(∀b,O0 b->b<W.heap.size)->V W->
  (∀k O X Y,J k O X->Keep (fun b=>(b<W.heap.size/\ ¬T b)∨O b) X Y->J k O Y)->
  (∀k O X Y,Jx k O X->Keep (fun b=>(b<W.heap.size/\ ¬T b)∨O b) X Y->Jx k O Y)->
  (∀k O X,k<N->J k O X->V X->W.heap.size<=X.heap.size->YieldAt Fence.wide 0 P l (encs k) X (qtd W.heap.size V J Jx k O X))->
  J 0 O0 W->
  Calls P g (#[.func (.yield l) #[] #[]]++lb) W fun e W'=>(∃v,e=.returned v)/\W.heap.size<=W'.heap.size/\V W'/\
   ∃O':Nat->Prop,(J N O' W'∨ ∃k,k<N/\Jx k O' W')
def qeh (B n:Nat)(V:World->Prop)(O:Nat->Prop)(Y0 Y:World)(R:(Nat->Prop)->Prop):Prop:=
 ∃O':Nat->Prop,(∀b,O b->O' b)/\(∀b,O' b->O b∨(n<=b/\b<Y.heap.size))/\Keep (fun b=>B<=b/\b<n/\ ¬O b) Y0 Y/\V Y/\R O'
def q7n (B n:Nat)(V:World->Prop)(I:Nat->(Nat->Prop)->World->Prop)(Ix:Code->Nat->(Nat->Prop)->World->Prop)(k:Nat)(O:Nat->Prop)(Y0:World):Exit->Act->World->Prop
 |.normal,_,Y=>qeh B n V O Y0 Y fun O'=>I (k+1) O' Y
 |.ret,_,Y=>qeh B n V O Y0 Y fun O'=>Ix .ret k O' Y
 |.exit id,_,Y=>qeh B n V O Y0 Y fun O'=>Ix (.exit id) k O' Y
 |.goto t,_,Y=>qeh B n V O Y0 Y fun O'=>Ix (.goto t) k O' Y
 |.panic _,_,_=>False
 |.outgrown,_,_=>False
def qte (P:Program)(l B:Nat)(body:Code)(V:World->Prop)(I:Nat->(Nat->Prop)->World->Prop)(Ix:Code->Nat->(Nat->Prop)->World->Prop)(k:Nat)(O:Nat->Prop)(X:World)(a₁:Act)(X₁:World):Prop:=
 Keep (fun b=>b<X.heap.size) X X₁/\
  ∀Y,Keep (fun b=>b≠l) X₁ Y->Y.heap.size=X₁.heap.size->(∃r,Y.heap[l]?=some (.loop r))->body.wpIn (inR l) 0 P (q7n B X.heap.size V I Ix k O Y) a₁ Y
theorem q3c {P:Program}{fn:FuncId}{l B S:Nat}{rec:LoopState->Option Code->Loop}{tmps0:Array Value}{ps:Array Tmp}{assign body:Code}{df:Nat}
  (hrec:rec=fun st pe=>{state:=st,pending:=pe,fn:=fn,tmps:=tmps0,params:=ps,assign:=assign,body:=body,defers:=df})
  (hlB:B<=l) (hS:B<=S) (hlS:l<S) {encs:Nat->Array Value} (hps: ∀k,(encs k).size=ps.size) {V:World->Prop} {T:Nat->Prop} (hTl: ¬T l) (hVst: ∀X Y,V X->Keep (fun b=>b<B) X Y->V Y)
  {I:Nat->(Nat->Prop)->World->Prop} {Ix:Code->Nat->(Nat->Prop)->World->Prop}
  (hI: ∀k O X Y,I k O X->Keep (fun b=>(b<S/\ ¬T b/\b≠l)∨O b) X Y->I k O Y) (hIx: ∀c k O X Y,Ix c k O X->Keep (fun b=>(b<S/\ ¬T b/\b≠l)∨O b) X Y->Ix c k O Y)
  (X:World) (k:Nat) (O:Nat->Prop) (hOl: ¬O l) (hi:I k O X) (hl:X.heap[l]?=some (.loop (rec .ready none)))
  (hround:assign.wpIn (inR l) 0 P (Exit.then (qte P l B body V I Ix k O X) (fun _ _ _=>False)) {tmps:=(ps.zip (encs k)).foldl (fun t (p,v)=>t.setIfInBounds p v) tmps0,defers:= []} X):
  YieldAt Fence.wide 0 P l (encs k) X (qtd S V
   (fun k O W=>I k O W/\ ¬O l/\W.heap[l]?=some (.loop (rec .ready none)))
   (fun k O W=> ∃c,Ix c k O W/\ ¬O l/\W.heap[l]?=some (.loop (rec .done (some c)))) k O X):=by
 have hy:=run_yield (P:=P) (args:=encs k) hl (by rw [hrec];exact hps k);rw [hrec]at hy;have hllt:=qe hl;refine⟨fn,_,assign,body,hy,roundIn_of_wpIn (F:=Fence.wide) trivial (wpIn_mono hround ?_)⟩;intro e a₁ X₁ he;cases e with
 |normal=>
  obtain⟨hk1,hb⟩:=he;have hl1':X₁.heap[l]?=some (.loop (rec .ready none)):=hk1.heap hl hllt;refine⟨_,run_beginRound hl1' (by rw [hrec]),?_⟩;have hl2:(X₁.putObj l (.loop {rec .ready none with state:=.busy})).heap[l]?=some (.loop {rec .ready none with state:=.busy}):=World.putObj_heap_same (qe hl1');have hkY:Keep (fun b=>b≠l) X₁ (X₁.putObj l (.loop {rec .ready none with state:=.busy})):=Keep.putObj _ _ _ (by simp);refine wpIn_mono (hb _ hkY (by simp) ⟨_,hl2⟩) ?_;generalize hY0:X₁.putObj l (.loop {rec .ready none with state:=.busy})=Y0 at hl2 hkY;clear hY0 hb;have fin: ∀(jump:Option Code) (Y:World) (R:(Nat->Prop)->Prop),qeh B X.heap.size V O Y0 Y R->
    ∃Y',(Instr.endRound l jump).run P Y=.ok (.bool jump.isNone) Y'/\Y'.heap[l]?=some (.loop (rec (if jump.isNone then .ready else .done) jump))/\Keep (fun b=>b≠l) Y Y'/\
    ∃O':Nat->Prop,(∀b,O b->O' b)/\(∀b,O' b->O b∨(X.heap.size<=b/\b<Y'.heap.size))/\Keep (fun b=>S<=b/\ ¬O b) X Y'/\V Y'/\ ¬O' l/\R O':=by
   rintro jump Y R ⟨O',hO,hO',hK,hV,hR⟩;have hl3:Y.heap[l]?=some (.loop {rec .ready none with state:=.busy}):=hK.heap hl2 ⟨hlB,hllt,hOl⟩;have:=run_endRound (P:=P) jump hl3;refine⟨_,this,?_,Keep.putObj _ _ _ (by simp),O',hO,by simpa using hO',?_,?_,?_,hR⟩
   ·rw [World.putObj_heap_same (qe hl3)];subst hrec;rfl
   ·have h1:Keep (fun b=>(S<=b/\ ¬O b)/\b<X.heap.size) X X₁:=hk1.mono (fun _ h _=>h);have h2:Keep (fun b=>(S<=b/\ ¬O b)/\b<X.heap.size) X₁ Y0:=hkY.mono (fun b _ h e=>by have:=h.1.1;omega);have h3:Keep (fun b=>(S<=b/\ ¬O b)/\b<X.heap.size) Y0 Y:=hK.mono (fun b _ h=>⟨by have:=h.1.1;omega,h.2,h.1.2⟩);have h4:Keep (fun b=>(S<=b/\ ¬O b)/\b<X.heap.size) Y (Y.putObj l (.loop {({rec .ready none with state:=.busy}:Loop) with state:=if jump.isNone then .ready else .done,pending:=jump})):=Keep.putObj _ _ _ (fun h=>by have:=h.1.1;omega);exact(((h1.trans h2).trans h3).trans h4).mono (fun b hb h=>⟨h,hb⟩)
   ·exact hVst _ _ hV (Keep.putObj _ _ _ (by simp;omega))
   ·intro h;rcases hO' l h with h |h
    ·exact hOl h
    ·omega
  have hst: ∀{O':Nat->Prop} {Y Y':World},¬O' l->Keep (fun b=>b≠l) Y Y'->Keep (fun b=>(b<S/\ ¬T b/\b≠l)∨O' b) Y Y':=fun hn hK=>hK.mono (fun b _ h=>by
   rcases h with h |h
   ·exact h.2.2
   ·intro e;subst e;exact hn h)
  rintro e a3 Y hp;cases e with
  |normal=>
   obtain⟨Y',hr,hl',hKl,O',hO,hO',hK,hV,hn,hR⟩:=fin none Y _ hp;exact⟨_,_,hr,O',hO,hO',hK,hV,.inl ⟨rfl,hI _ _ _ _ hR (hst hn hKl),hn,hl'⟩⟩
  |ret=>
   obtain⟨Y',hr,hl',hKl,O',hO,hO',hK,hV,hn,hR⟩:=fin (some .ret) Y _ hp;exact⟨_,_,hr,O',hO,hO',hK,hV,.inr ⟨rfl,.ret,hIx _ _ _ _ _ hR (hst hn hKl),hn,hl'⟩⟩
  |exit id=>
   obtain⟨Y',hr,hl',hKl,O',hO,hO',hK,hV,hn,hR⟩:=fin (some (.exit id)) Y _ hp;exact⟨_,_,hr,O',hO,hO',hK,hV,.inr ⟨rfl,.exit id,hIx _ _ _ _ _ hR (hst hn hKl),hn,hl'⟩⟩
  |goto t=>
   obtain⟨Y',hr,hl',hKl,O',hO,hO',hK,hV,hn,hR⟩:=fin (some (.goto t)) Y _ hp;exact⟨_,_,hr,O',hO,hO',hK,hV,.inr ⟨rfl,.goto t,hIx _ _ _ _ _ hR (hst hn hKl),hn,hl'⟩⟩
  |panic ch=>exact hp.elim
  |outgrown=>exact hp.elim
 |ret=>exact he.elim
 |exit id=>exact he.elim
 |goto t=>exact he.elim
 |panic c=>exact he.elim
 |outgrown=>exact he.elim
theorem qxw {P:Program}{F:Fence}(hF:F=Fence.wide∨ ∃l0,F=inR l0){g:Operand}{ps:Array Tmp}{assign body:Code}{Q:Exit->Act->World->Prop}{a:Act}{w:World}
  {gf:Nat} {lb:Array Value} (hg:a.eval g=.func (.func gf) #[] lb) (eg: ∀args w,(callFunc gf args).run P w=.ok (.enter gf args) w)
  {encs:Nat->Array Value} {N:Nat} {V:World->Prop} {T:Nat->Prop} (hit:qxv P gf lb encs N V T) (hps: ∀k,(encs k).size=ps.size)
  {l df:Nat} {mark:List Deferred} {W1:World}
  (henter: ∀fn,∃W1',(Instr.enterLoop fn a.tmps ps assign body F.round).run P w=.ok (l,mark) W1'/\Keep (fun _=>True) w W1'/\W1'.heap.size=W1.heap.size/\
    W1'.heap[l]?=some (.loop {state:=.ready,pending:=none,fn:=fn,tmps:=a.tmps,params:=ps,assign:=assign,body:=body,defers:=df})/\Keep (fun b=>b≠l) W1 W1')
  (hl:w.heap.size<=l) (hl1:l<W1.heap.size) (hTb: ∀b,T b->b<w.heap.size) (hV0:V w) (hVst: ∀X Y,V X->Keep (fun b=>b<w.heap.size) X Y->V Y)
  (I:Nat->(Nat->Prop)->World->Prop) (Ix:Code->Nat->(Nat->Prop)->World->Prop)
  (hI: ∀k O X Y,I k O X->Keep (fun b=>(b<W1.heap.size/\ ¬T b/\b≠l)∨O b) X Y->I k O Y) (hIx: ∀c k O X Y,Ix c k O X->Keep (fun b=>(b<W1.heap.size/\ ¬T b/\b≠l)∨O b) X Y->Ix c k O Y)
  (h0:I 0 (fun _=>False) W1)
  (hround: ∀k O X,k<N->I k O X->V X->W1.heap.size<=X.heap.size-> ¬O l->assign.wpIn (inR l) 0 P (Exit.then (qte P l w.heap.size body V I Ix k O X) (fun _ _ _=>False)) {tmps:=(ps.zip (encs k)).foldl (fun t (p,v)=>t.setIfInBounds p v) a.tmps,defers:= []} X)
  (hdone: ∀O W,I N O W->V W->W1.heap.size<=W.heap.size->Q .normal {a with defers:=mark++a.defers} W)
  (hstop: ∀c k O W,k<N->Ix c k O W->V W->W1.heap.size<=W.heap.size->c.wpIn F 0 P Q {a with defers:=mark++a.defers} W):
  (Code.rangeFunc g ps assign body).wpIn F 0 P Q a w:=by
 have hFd:F.depth=none:=by rcases hF with rfl |⟨l0,rfl⟩<;>rfl
 have hFf: ∀f,F.fn f:=by rcases hF with rfl |⟨l0,rfl⟩<;>(intro f;trivial)
 refine wpIn_rangeFunc ?_;intro fn _;obtain⟨W1',he,hk1,hsz,hl1',hkl⟩:=henter fn;refine⟨l,mark,W1',{target:=.fn (.func gf) lb,args:= #[.func (.yield l) #[] #[]]},W1',gf,#[.func (.yield l) #[] #[]]++lb,W1',he,?_,fun f' _=>hFf f',?_,fun h=>by simp [hFd] at h,?_⟩
 ·simp only [resolve,hg];simp [go_sem]
 ·simp [invoke,go_sem,eg]
 ·have hcalls:=hit l
   (fun k O W=>I k O W/\ ¬O l/\W.heap[l]?=some (.loop {state:=.ready,pending:=none,fn:=fn,tmps:=a.tmps,params:=ps,assign:=assign,body:=body,defers:=df}))
   (fun k O W=> ∃c,Ix c k O W/\ ¬O l/\W.heap[l]?=some (.loop {state:=.done,pending:=some c,fn:=fn,tmps:=a.tmps,params:=ps,assign:=assign,body:=body,defers:=df}))
   (fun _=>False) W1' (by omega) (fun b h=>h.elim) (hVst _ _ hV0 (hk1.mono (fun _ _ _=>trivial)))
   (fun k O X Y h hK=>⟨hI k O X Y h.1 (hK.mono (fun b _ hb=>hb.imp (fun h=>⟨hsz▸h.1,h.2.1⟩) id)),h.2.1,hK.heap h.2.2 (.inl ⟨by omega,fun h=>by have:=hTb _ h;omega⟩)⟩)
   (fun k O X Y h hK=>by
    obtain⟨c,hc,hn,hh⟩:=h;exact⟨c,hIx c k O X Y hc (hK.mono (fun b _ hb=>hb.imp (fun h=>⟨hsz▸h.1,h.2.1⟩) id)),hn,hK.heap hh (.inl ⟨by omega,fun h=>by have:=hTb _ h;omega⟩)⟩)
   (fun k O X hk h hV hs=>q3c (rec:=fun st pe=>{state:=st,pending:=pe,fn:=fn,tmps:=a.tmps,params:=ps,assign:=assign,body:=body,defers:=df}) rfl (B:=w.heap.size) hl (by omega) (by omega) hps (T:=T) (fun h=>by have:=hTb _ h;omega) hVst
    (fun k O X Y h hK=>hI k O X Y h (hK.mono (fun b _ hb=>hb.imp (fun h=>⟨hsz▸h.1,h.2⟩) id))) (fun c k O X Y h hK=>hIx c k O X Y h (hK.mono (fun b _ hb=>hb.imp (fun h=>⟨hsz▸h.1,h.2⟩) id)))
    X k O h.2.1 h.1 h.2.2 (hround k O X hk h.1 hV (by omega) h.2.1))
   ⟨hI _ _ _ _ h0 (hkl.mono (fun b _ h=>h.elim (fun h=>h.2.2) False.elim)),fun h=>h,hl1'⟩
  have hF2:CallsIn F (0-1) P gf (#[.func (.yield l) #[] #[]]++lb) W1' (rangePost F 0 P l Q {a with defers:=mark++a.defers}):=by
   have hc2:Calls P gf (#[.func (.yield l) #[] #[]]++lb) W1' (rangePost F 0 P l Q {a with defers:=mark++a.defers}):=by
    refine hcalls.mono ?_;rintro e W2 ⟨⟨v,rfl⟩,hs2,hV2,O',hJ |⟨k,hk,c,hx,hn,hh⟩⟩
    ·obtain⟨hi,hn,hh⟩:=hJ;refine⟨none,_,run_endLoop (P:=P) hh (by simp),hdone O' _ (hI _ _ _ _ hi (Keep.putObj _ _ _ (fun h=>h.elim (fun h=>h.2.2 rfl) hn))) (hVst _ _ hV2 (Keep.putObj _ _ _ (by omega))) (by simp;omega)⟩
    ·refine⟨some c,_,run_endLoop (P:=P) hh (by simp),hstop c k O' _ hk (hIx _ _ _ _ _ hx (Keep.putObj _ _ _ (fun h=>h.elim (fun h=>h.2.2 rfl) hn))) (hVst _ _ hV2 (Keep.putObj _ _ _ (by omega))) (by simp;omega)⟩
   have hw:CallsIn Fence.wide (0-1) P gf (#[.func (.yield l) #[] #[]]++lb) W1' (rangePost F 0 P l Q {a with defers:=mark++a.defers}):=callsIn_wide.2 hc2;rcases hF with rfl |⟨l0,rfl⟩
   ·exact hw
   ·exact CallsIn.inRound l0 hw
  exact hF2
theorem qkq {P:Program}{g:Operand}{ps:Array Tmp}{assign body:Code}{Q:Exit->Act->World->Prop}{a:Act}{w:World}
  {gf:Nat} {lb:Array Value} (hg:a.eval g=.func (.func gf) #[] lb) (eg: ∀args w,(callFunc gf args).run P w=.ok (.enter gf args) w)
  {encs:Nat->Array Value} {N:Nat} {V:World->Prop} {T:Nat->Prop} (hit:qxv P gf lb encs N V T) (hps: ∀k,(encs k).size=ps.size)
  (hTb: ∀b,T b->b<w.heap.size) (hV0:V w) (hVst: ∀X Y,V X->Keep (fun b=>b<w.heap.size) X Y->V Y)
  (I:Nat->(Nat->Prop)->World->Prop) (Ix:Code->Nat->(Nat->Prop)->World->Prop)
  (hI: ∀k O X Y,I k O X->Keep (fun b=>(b<w.heap.size/\ ¬T b)∨O b) X Y->I k O Y) (hIx: ∀c k O X Y,Ix c k O X->Keep (fun b=>(b<w.heap.size/\ ¬T b)∨O b) X Y->Ix c k O Y)
  (h0:I 0 (fun _=>False) w)
  (hround: ∀l k O X,w.heap.size<=l->l<X.heap.size-> ¬O l->k<N->I k O X->V X->w.heap.size+2<=X.heap.size->assign.wpIn (inR l) 0 P (Exit.then (qte P l w.heap.size body V I Ix k O X) (fun _ _ _=>False)) {tmps:=(ps.zip (encs k)).foldl (fun t (p,v)=>t.setIfInBounds p v) a.tmps,defers:= []} X)
  (hdone: ∀D O W,w.heap.size<=D-> ¬O D->W.heap[D]?=some (.deferred (some []))->w.heap.size<=W.heap.size->I N O W->V W->Q .normal {a with defers:={target:=.collected D,args:= #[]}::a.defers} W)
  (hstop: ∀D c k O W,w.heap.size<=D-> ¬O D->W.heap[D]?=some (.deferred (some []))->w.heap.size<=W.heap.size->k<N->Ix c k O W->V W->c.wpIn Fence.wide 0 P Q {a with defers:={target:=.collected D,args:= #[]}::a.defers} W):
  (Code.rangeFunc g ps assign body).wpIn Fence.wide 0 P Q a w:=by
 obtain⟨W1,hW1⟩:=ex ((w.alloc (.deferred (some []))).alloc (.deferred (some [])));have hs1:W1.heap.size=w.heap.size+2:=by rw [←hW1];simp
 have hD1:W1.heap[w.heap.size]?=some (.deferred (some [])):=by
  rw [←hW1];exact(Below.heap_alloc _ _ _ (by simp)).trans (World.alloc_heap_new w _)
 have hk1:Keep (fun _=>True) w W1:=by rw [←hW1];exact(Keep.alloc _ w _).trans (Keep.alloc _ _ _)
 refine qxw (.inl rfl) hg eg hit hps (l:=w.heap.size+1) (df:=w.heap.size) (mark:= [{target:=.collected w.heap.size,args:= #[]}]) (W1:=W1) ?_ (by omega) (by omega) hTb hV0 hVst
  (fun k O W=>I k O W/\ ¬O w.heap.size/\W.heap[w.heap.size]?=some (.deferred (some [])))
  (fun c k O W=>Ix c k O W/\ ¬O w.heap.size/\W.heap[w.heap.size]?=some (.deferred (some []))) ?_ ?_ ?_ ?_ ?_ ?_
 ·intro fn;refine⟨_,run_enterLoop_outer _ _ _ _ _,(Keep.alloc _ w _).trans (Keep.alloc _ _ _),by rw [hs1];simp,?_,?_⟩
  ·have:=World.alloc_heap_new (w.alloc (.deferred (some []))) (.loop {state:=.ready,pending:=none,fn:=fn,tmps:=a.tmps,params:=ps,assign:=assign,body:=body,defers:=w.heap.size})
   rwa [World.size_alloc] at this
  ·rw [←hW1];refine⟨rfl,rfl,rfl,by simp,fun k hk hC=>?_⟩;have hk':k<(w.alloc (.deferred (some []))).heap.size:=by simp at hk⊢;omega
   rw [Below.heap_alloc _ _ _ hk',Below.heap_alloc _ _ _ hk']
 ·rintro k O X Y ⟨h1,h2,h3⟩ hK;exact⟨hI k O X Y h1 (hK.mono (fun b _ h=>h.imp (fun h=>⟨by omega,h.2,by omega⟩) id)),h2,hK.heap h3 (.inl ⟨by omega,fun h=>by have:=hTb _ h;omega,by omega⟩)⟩
 ·rintro c k O X Y ⟨h1,h2,h3⟩ hK;exact⟨hIx c k O X Y h1 (hK.mono (fun b _ h=>h.imp (fun h=>⟨by omega,h.2,by omega⟩) id)),h2,hK.heap h3 (.inl ⟨by omega,fun h=>by have:=hTb _ h;omega,by omega⟩)⟩
 ·exact⟨hI _ _ _ _ h0 (hk1.mono (fun _ _ _=>trivial)),fun h=>h,hD1⟩
 ·rintro k O X hk ⟨h1,h2,h3⟩ hV hsz hOl;refine wpIn_mono (hround _ k O X (by omega) (by omega) hOl hk h1 hV (by omega)) ?_;intro e a₁ X₁ he;cases e with
  |normal=>
   obtain⟨hk1,hb⟩:=he;refine⟨hk1,fun Y hY hs hl=>wpIn_mono (hb Y hY hs hl) ?_⟩;have hY0:Y.heap[w.heap.size]?=some (.deferred (some [])):=hY.heap (hk1.heap h3 (by omega)) (by omega);have conv: ∀(R:(Nat->Prop)->Prop) (Z:World),qeh w.heap.size X.heap.size V O Y Z R->qeh w.heap.size X.heap.size V O Y Z (fun O'=>R O'/\ ¬O' w.heap.size/\Z.heap[w.heap.size]?=some (.deferred (some []))):=by
    rintro R Z ⟨O',hO,hO',hK,hV',hR⟩;exact⟨O',hO,hO',hK,hV',hR,fun h=>(hO' _ h).elim h2 (by omega),hK.heap hY0 ⟨Nat.le_refl _,by omega,h2⟩⟩
   rintro e' a' Z hz;cases e' with
   |normal=>exact conv _ _ hz
   |ret=>exact conv _ _ hz
   |exit id=>exact conv _ _ hz
   |goto t=>exact conv _ _ hz
   |panic c=>exact hz.elim
   |outgrown=>exact hz.elim
  |ret=>exact he.elim
  |exit id=>exact he.elim
  |goto t=>exact he.elim
  |panic c=>exact he.elim
  |outgrown=>exact he.elim
 ·rintro O W ⟨h1,h2,h3⟩ hV hsz;exact hdone _ O W (Nat.le_refl _) h2 h3 (by omega) h1 hV
 ·rintro c k O W hk ⟨h1,h2,h3⟩ hV hsz;exact hstop _ c k O W (Nat.le_refl _) h2 h3 (by omega) hk h1 hV
theorem qg7 {P:Program}{fn:Func}{tmps:Array Value}{R:Ending->World->Prop}{D:Nat}{ds:List Deferred}{w:World}(hD:w.heap[D]?=some (.deferred (some [])))
  (h:LeavesInM Fence.wide 0 P fn tmps R ds .returning (w.putObj D (.deferred none))):
  LeavesInM Fence.wide 0 P fn tmps R ({target:=.collected D,args:= #[]}::ds) .returning w:=
 ⟨by simp,.inl ⟨_,_,rfl,run_takeDeferred hD,h⟩⟩
theorem qbp {P:Program}{f:FuncId}{fn:Func}{c:Code}{args:Array Value}{w:World}{R:Ending->World->Prop}
  (hf:P.funcs[f]?=some fn) (hb:fn.body=some c)
  (h:c.wpIn Fence.wide 0 P (bodyPost P fn R) {tmps:=args++Array.replicate (fn.ntmps-args.size) undef,defers:= []} w):Calls P f args w R:=
 callsIn_wide.1 (callsIn_of_wp hf hb trivial h rfl)
theorem qfu {P:Program}{f:FuncId}{fn:Func}{c:Code}{args:Array Value}{w:World}{R:Ending->World->Prop}
  (hf:P.funcs[f]?=some fn) (hb:fn.body=some c)
  (h:c.wpIn Fence.wide 0 P (bodyPostM Fence.wide 0 P fn R) {tmps:=args++Array.replicate (fn.ntmps-args.size) undef,defers:= []} w):Calls P f args w R:=
 callsIn_wide.1 (callsIn_of_wp_marks hf hb trivial h rfl)
def qst (c:Code):Prop:=c=.ret
def q42 (Ds:List Nat):List Deferred:=Ds.map fun D=>{target:=.collected D,args:= #[]}
def MarksAt (Ds:List Nat)(O:Nat->Prop)(w:World):Prop:= ∀D,D∈Ds-> ¬O D/\w.heap[D]?=some (.deferred (some []))
theorem MarksAt.keep {Ds:List Nat}{O O' C:Nat->Prop}{w w':World}(h:MarksAt Ds O w)(hK:Keep C w w')(hC: ∀D,D∈Ds->C D)(hO: ∀D,D∈Ds-> ¬O D-> ¬O' D):MarksAt Ds O' w':=
 fun D hD=>⟨hO D hD (h D hD).1,hK.heap (h D hD).2 (hC D hD)⟩
theorem qgl {P:Program}{fn:Func}{tmps:Array Value}{R:Ending->World->Prop}: ∀(Ds:List Nat) (w:World),Ds.Nodup->(∀D,D∈Ds->w.heap[D]?=some (.deferred (some [])))->
  (∀w',Keep (fun b=>b∉Ds) w w'->w'.heap.size=w.heap.size->LeavesInM Fence.wide 0 P fn tmps R [] .returning w')->LeavesInM Fence.wide 0 P fn tmps R (q42 Ds) .returning w
 | [],w,_,_,h=>h w (Keep.refl _ _) rfl
 |D::Ds,w,hn,hD,h=>by
  refine qg7 (hD D (by simp)) (qgl Ds _ (nodup_cons.1 hn).2 (fun E hE=>?_) (fun w' hK hs=>h w' ?_ (by simpa using hs)))
  ·rw [World.putObj_heap_other (fun e:E=D=>(nodup_cons.1 hn).1 (by rw [←e];exact hE))];exact hD E (by simp [hE])
  ·exact(Keep.putObj (C:=fun b=>b∉D::Ds) w D _ (by simp)).trans (hK.mono fun b _ hb=>fun h=>hb (by simp [h]))
theorem qbx {P:Program}{fn:Func}{tmps:Array Value}{R:Ending->World->Prop}{w:World}{v:Value}(hr:(results fn tmps).run P w=.ok v w)(hR:R (.returned v) w):LeavesInM Fence.wide 0 P fn tmps R [] .returning w:=⟨v,hr,hR⟩
theorem qc6 {P:Program}{f:FuncId}{fn:Func}{c:Code}(hf:P.funcs[f]?=some fn)(hname:(fn.name== "runtime.NumGoroutine")=false)(hb:fn.body=some c):
  ∀(args:Array Value) (w:World),(callFunc f args).run P w=.ok (.enter f args) w:=by
 intro args w;have h1:fn.name≠ "runtime.NumGoroutine" :=by simpa using hname
 simp [callFunc,hf,h1,hb,mark]
theorem qoj {F:Fence}{n:Nat}{P:Program}{c:Code}{Q:Exit->Act->World->Prop}{a:Act}{w:World}(G:World->Prop)(h:G w)(k: ∀W,G W->c.wpIn F n P Q a W):c.wpIn F n P Q a w:=k w h
theorem qky {P:Program}{c:Code}{Q:Exit->Act->World->Prop}{a:Act}{w:World}(G:World->Prop)(h:G w)(k: ∀W,G W->c.wp P Q a W):c.wp P Q a w:=k w h
theorem qib {Q:Exit->Act->World->Prop}{e:Exit}{a:Act}{w:World}(G:World->Prop)(h:G w)(k: ∀W,G W->Q e a W):Q e a w:=k w h
theorem qvp {F:Fence}{n:Nat}{P:Program}{f:FuncId}{args:Array Value}{R:Ending->World->Prop}{w:World}(G:World->Prop)(h:G w)(k: ∀W,G W->CallsIn F n P f args W R):CallsIn F n P f args w R:=k w h
end Go.Ink
namespace Go.Ink
theorem kAl {C:Nat->Prop}{w:World}{o:Obj}:Keep C w (w.alloc o):=Keep.alloc C w o
theorem kDr {C:Nat->Prop}{w:World}:Keep C w w.drew:=Keep.drew C w
theorem kSc {C:Nat->Prop}{w:World}{p:Addr}{u:Value}(h: ¬C p.block:=by simp):Keep C w (w.setCell p u):=Keep.setCell w p u h
end Go.Ink
