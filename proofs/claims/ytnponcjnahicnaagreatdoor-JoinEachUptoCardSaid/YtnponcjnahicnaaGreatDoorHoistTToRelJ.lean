/- Parts of the proof. -/
import Derived.Test.YtnponcjnahicnaaGreatDoorHdToHoistR
import Derived.Deep.Onto
import Derived.BigQuiet
import Derived.DeepKeys4
import Derived.Maps.RangeWalk
import Derived.WideKeyEntry
import Derived.Test.YtnponcjnahicnaaGreatDoorProg
import Derived.Laws.Cover3
set_option linter.unusedSimpArgs false
set_option linter.unusedVariables false
set_option maxRecDepth 100000
set_option maxHeartbeats 4000000
open Go.Proofs.Tryz(prog)
open List(all_append append_inj drop_replicate find?_cons getElem?_cons_succ getElem?_set_self map_map map_replicate map_set nil_append replicate_succ set_append_right set_cons_zero singleton_append take_set_of_le take_zero)
namespace Go.Ink
open Go.RowKit
def wpT (_:List Nat)(p:Prop):Prop:=p
theorem qq (l:List Nat){p:Prop}(h:wpT l p):p:=h
theorem ql {p:Prop}(h:p):wpT [] p:=h
theorem qr:(∀(a:Act) (d:Tmp) (v:Value),a.put (some d) v={a with tmps:=a.tmps.setIfInBounds d v})/\(∀(a:Act) (v:Value),a.put none v=a)/\
  (∀(α:Type) (l:List α) (i:Nat) (x:α),l.toArray.setIfInBounds i x=(l.set i x).toArray)/\(∀(α:Type) (l:List α) (a b:α),(a::l).set 0 b=b::l)/\(∀(α:Type) (l:List α) (i:Nat) (a b:α),(a::l).set (i+1) b=a::l.set i b)/\
  (∀(α:Type) (l:List α) (i:Nat) (h:i<l.toArray.size),l.toArray[i]=l[i])/\(∀(α:Type) (l:List α) (a:α) (h:0<(a::l).length),(a::l)[0]=a)/\(∀(α:Type) (l:List α) (a:α) (i:Nat) (h:i+1<(a::l).length),(a::l)[i+1]=l[i]'(Nat.lt_of_succ_lt_succ h)):=
 ⟨fun _ _ _=>rfl,fun _ _=>rfl,fun _ _ _ _=>yK ..,fun _ _ _ _=>rfl,fun _ _ _ _ _=>rfl,fun _ _ _ _=>rfl,fun _ _ _ _=>rfl,fun _ _ _ _ _=>rfl⟩
section
variable {P : Program} {ops : Array Oper} {Q : Exit -> Act -> World -> Prop} {md : Region.Mode} {S : World -> Prop} {late : List Nat}
theorem ho (i:Nat){d:Oper}{c:Nat}{b:Array Bool}{a:Act}{w:World}(hi:ops[i]?=some d)
  (h: ∀K:Act->World->Prop,Hid (∀a' w',(late.contains i=false->S w')->qco P md ops Q S late c (b.setIfInBounds i true) a' w'->K a' w')->wpList P ops (Exit.then K Q) [d] a w)
  (e:Region.ready md ops b= [i]:=by kernel_rfl):qco P md ops Q S late (c+1) b a w:=qf1 hi e h
theorem tkN {i:Nat}{l:List Nat}{e:Oper}{v:Value}{d:Nat}{b:Array Bool}{a:Act}{w:World}(hi:ops[i]?=some e)(g:S w)(p: ∀u,S u->(execOp a.eval e).run P u=.ok (.value v) u)
  (h:wpT l (qco P md ops Q S late d (b.setIfInBounds i true) (a.put e.dst v) w)) (m:Region.wanted e (yielded ops a.tmps)=true:=by kernel_rfl)
  (hs:Region.noSelect ops=true:=by kernel_rfl) (hf:Region.free md ops b i=true:=by kernel_rfl) (hr:(Region.ready md ops b).contains i=true:=by kernel_rfl) (hl:qe6 md ops late i=true:=by kernel_rfl)
  (hQ: ∀c a w,Q (.panic c) (a.put e.dst v) w->Q (.panic c) a w:=by exact fun _ _ _ h=>h):wpT (i::l) (qco P md ops Q S late (d+1) b a w):=
 qaz hi hs hf hr hl hQ g (Or.inl ⟨m,p⟩) h
theorem tkA {i:Nat}{l:List Nat}{e:Oper}{v:Value}{d:Nat}{b:Array Bool}{a:Act}{w:World}(hi:ops[i]?=some e)(g:S w)
  (h:wpT l (qco P md ops Q S late d (b.setIfInBounds i true) (a.put e.dst v) w)) (m: ∀u,S u->(execOp a.eval e).run P u=.ok (.value v) u:=by intro u;(first |(show(_/\_)->_;simp only [and_imp];intros) |(intro h;try dsimp only at h));go_simp;try with_reducible rfl) (hw:Region.wanted e (yielded ops a.tmps)=true:=by kernel_rfl)
  (hs:Region.noSelect ops=true:=by kernel_rfl) (hf:Region.free md ops b i=true:=by kernel_rfl) (hr:(Region.ready md ops b).contains i=true:=by kernel_rfl) (hl:qe6 md ops late i=true:=by kernel_rfl)
  (hQ: ∀c a w,Q (.panic c) (a.put e.dst v) w->Q (.panic c) a w:=by exact fun _ _ _ h=>h):wpT (i::l) (qco P md ops Q S late (d+1) b a w):=
 qaz hi hs hf hr hl hQ g (Or.inl ⟨hw,m⟩) h
end
section
variable {F : Fence} {n : Nat} {P : Program} {ops : Array Oper} {Q : Exit -> Act -> World -> Prop} {md : Region.Mode} {S : World -> Prop} {late : List Nat}
theorem hoR (i:Nat){d:Oper}{c:Nat}{b:Array Bool}{a:Act}{w:World}(hi:ops[i]?=some d)
  (h: ∀K:Act->World->Prop,Hid (∀a' w',(late.contains i=false->S w')->qb6 F n P md ops Q S late c (b.setIfInBounds i true) a' w'->K a' w')->wpListIn F n P ops (Exit.then K Q) [d] a w)
  (e:Region.ready md ops b= [i]:=by kernel_rfl):qb6 F n P md ops Q S late (c+1) b a w:=qf7 hi e h
theorem tkR {i:Nat}{l:List Nat}{e:Oper}{v:Value}{d:Nat}{b:Array Bool}{a:Act}{w:World}(hi:ops[i]?=some e)(m:S w)(p: ∀u,S u->(execOp a.eval e).run P u=.ok (.value v) u)
  (h:wpT l (qb6 F n P md ops Q S late d (b.setIfInBounds i true) (a.put e.dst v) w)) (g: ∀f,F.fn f:=by exact fun _=>wF) (hnd:qlc ops=true:=by kernel_rfl) (hw:Region.wanted e (yielded ops a.tmps)=true:=by kernel_rfl)
  (hs:Region.noSelect ops=true:=by kernel_rfl) (hf:Region.free md ops b i=true:=by kernel_rfl) (hr:(Region.ready md ops b).contains i=true:=by kernel_rfl) (hl:qe6 md ops late i=true:=by kernel_rfl)
  (hQ: ∀c a w,Q (.panic c) (a.put e.dst v) w->Q (.panic c) a w:=by exact fun _ _ _ h=>h):wpT (i::l) (qb6 F n P md ops Q S late (d+1) b a w):=
 qk5 g hnd hi hs hf hr hl hQ m (Or.inl ⟨hw,p⟩) h
theorem tkS {i:Nat}{l:List Nat}{e:Oper}{d:Nat}{b:Array Bool}{a:Act}{w:World}(hi:ops[i]?=some e)(m:S w)
  (h:wpT l (qb6 F n P md ops Q S late d (b.setIfInBounds i true) (a.put e.dst undef) w)) (g: ∀f,F.fn f:=by exact fun _=>wF) (hnd:qlc ops=true:=by kernel_rfl) (hw:Region.wanted e (yielded ops a.tmps)=false:=by kernel_rfl)
  (hs:Region.noSelect ops=true:=by kernel_rfl) (hf:Region.free md ops b i=true:=by kernel_rfl) (hr:(Region.ready md ops b).contains i=true:=by kernel_rfl) (hl:qe6 md ops late i=true:=by kernel_rfl)
  (hQ: ∀c a w,Q (.panic c) (a.put e.dst undef) w->Q (.panic c) a w:=by exact fun _ _ _ h=>h):wpT (i::l) (qb6 F n P md ops Q S late (d+1) b a w):=
 qk5 g hnd hi hs hf hr hl hQ m (Or.inr ⟨hw,rfl⟩) h
theorem tkB {i:Nat}{l:List Nat}{e:Oper}{v:Value}{d:Nat}{b:Array Bool}{a:Act}{w:World}(hi:ops[i]?=some e)(g:S w)
  (h:wpT l (qb6 F n P md ops Q S late d (b.setIfInBounds i true) (a.put e.dst v) w)) (m: ∀u,S u->(execOp a.eval e).run P u=.ok (.value v) u:=by intro u;(first |(show(_/\_)->_;simp only [and_imp];intros) |(intro h;try dsimp only at h));go_simp;try with_reducible rfl) (hF: ∀f,F.fn f:=by exact fun _=>wF) (hnd:qlc ops=true:=by kernel_rfl) (hw:Region.wanted e (yielded ops a.tmps)=true:=by kernel_rfl)
  (hs:Region.noSelect ops=true:=by kernel_rfl) (hf:Region.free md ops b i=true:=by kernel_rfl) (hr:(Region.ready md ops b).contains i=true:=by kernel_rfl) (hl:qe6 md ops late i=true:=by kernel_rfl)
  (hQ: ∀c a w,Q (.panic c) (a.put e.dst v) w->Q (.panic c) a w:=by exact fun _ _ _ h=>h):wpT (i::l) (qb6 F n P md ops Q S late (d+1) b a w):=
 qk5 hF hnd hi hs hf hr hl hQ g (Or.inl ⟨hw,m⟩) h
end
end Go.Ink
namespace Go.Proofs
open Go.RowKit Go.Ink
theorem qbd {w:World}{base:Nat}{e:TypeId}{sz g n cap:Nat}{xs:List Value}(h:w.ownsRow base e sz (.slice (some ⟨g,0,none⟩) n cap) n xs)(j:Nat)(u:Value)(b:xs[j]?=some u):w.cell? ⟨g,j,none⟩=some u:=by
 have:=h.cells (g:=g) rfl j u b
 rwa [show((⟨g,0,none⟩:Addr).add j)=⟨g,j,none⟩ from by unfold Addr.add;split<;>simp_all] at this
theorem qes {w:World}{base:Nat}{e:TypeId}{sz g n cap:Nat}{xs:List Value}(h:w.ownsRow base e sz (.slice (some ⟨g,0,none⟩) n cap) n xs):n<=cap/\cap<=maxLen/\g<w.heap.size/\base<=g:=by
 rcases h.2 with ⟨h,_⟩ |⟨g',c,cur,h,hb,hg,hnc,hc,_⟩
 ·cases h
 ·cases h;exact⟨hnc,hc,qe hg,hb⟩
theorem qi {w:World}{base:Nat}{e:TypeId}{sz:Nat}{v:Value}{n:Nat}{xs:List Value}(h:w.ownsRow base e sz v n xs): ∃a c,v=.slice a n c:=by
 rcases h.2 with ⟨h1,h2⟩ |⟨g,c,_,h1,_⟩
 ·exact⟨none,0,by rw [h1,h2]⟩
 ·exact⟨_,c,h1⟩
theorem qgj {α:Type}{n:Nat}{w:World}{sz:Nat}{E:World->Nat->Nat->α->Prop}(cells:α->List Value)(R: ∀x,(cells x).length=sz)(q:0<sz)(Y: ∀b o x,E w b o x->CellsE w b o (cells x)){v:Value}{xs:List α}{a:Option Addr}{c:Nat}(h:SliceIn n w sz E v xs)(hv:v=.slice a xs.length c):
  (∀b,a=some b-> ∀j u,(xs.flatMap cells)[j]?=some u->w.cell? (b.add j)=some u)/\(a=none->xs.length=0):=by
 obtain⟨a',cap,g,hl,hc,t⟩:=h;rw [hv]at g;cases g;refine⟨fun b m j u p=>?_,fun l=>?_⟩
 ·have d:=(zA.1 p).1;rw [qa4 cells sz R]at d;have z:j/sz<xs.length:=Nat.div_lt_of_lt_mul (by rw [xL];exact d);have hr:j%sz<sz:=Nat.mod_lt _ q;obtain⟨s,off,l,aa,e⟩:=t (j/sz) (xs[j/sz]) (zB z);rw [m]at l;cases l;have y:=qbf cells sz R xs (j/sz) (j%sz) _ (zB z) hr;rw [show j/sz*sz+j%sz=j from by rw [xL];exact Nat.div_add_mod j sz]at y;rw [y]at p;have:=Y _ _ _ e (j%sz) u p;rw [show((⟨s,off,none⟩:Addr).add j)=⟨s,off+j,none⟩ from by unfold Addr.add;split<;>simp_all]
  rwa [xG,show j/sz*sz+j%sz=j from by rw [xL];exact Nat.div_add_mod j sz] at this
 ·by_cases U:xs.length=0
  ·exact U
  ·obtain⟨b,off,m,_⟩:=t 0 xs[0] (zB wA);rw [l]at m;cases m
theorem qjy {α:Type}(cells:α->List Value)(h: ∀x,∀u∈cells x,u.oneCell'=true)(xs:List α): ∀u∈xs.flatMap cells,u.oneCell'=true:=by
 intro u b;obtain⟨x,_,c⟩:=xD.1 b;exact h x u c
theorem Keep.drewN' (C:Nat->Prop)(w:World)(n:Nat):Keep C w (w.drewN n):=⟨rfl,rfl,rfl,zG _,fun _ _ _=>rfl⟩
theorem q90 {α:Type}[DecidableEq α]{xs b:List α}(c:xs.length=b.length)(h: ∀j,j<xs.length->xs[j]?=b[j]?):xs=b:=by
 refine xX fun j=>?_;rcases yY j xs.length with hj |hj
 ·exact h j hj
 ·rw [xB hj,xB wA]
theorem qzq {P:Program}{f:FuncId}{args:Array Value}{R:Ending->World->Prop}{w:World}(G:World->Prop)(h:G w)(k: ∀W,G W->Calls P f args W R):Calls P f args w R:=k w h
end Go.Proofs
namespace Go.Ink
open Go.RowKit Go.WideMaps
section
variable {κ ν : Type}
def qdd [DecidableEq κ](m:List (κ×ν))(k:κ):Option ν:=(m.find? fun p=>decide (p.1=k)).map (·.2)
def setK [DecidableEq κ](m:List (κ×ν))(k:κ)(v:ν):List (κ×ν):=if k∈m.map (·.1) then m.map fun p=>if p.1=k then (k,v) else p else m++ [(k,v)]
theorem qly [DecidableEq κ]{m:List (κ×ν)}{k:κ}(h:k∉m.map (·.1)):qdd m k=none:=by
 unfold qdd;rw [yn.2]
 ·rfl
 ·intro p b;simp only [zT];exact fun e=>h (e▸yL.2 ⟨p,b,rfl⟩)
theorem qo9 [DecidableEq κ]{m:List (κ×ν)}(b:(m.map (·.1)).Nodup){j:Nat}{p:κ×ν}(h:m[j]?=some p):qdd m p.1=some p.2:=by
 induction m generalizing j with
 |nil=>simp at h
 |cons q m ih=>
  rw [yX,xS]at b;cases j with
  |zero=>
   simp at h;subst h;simp [qdd]
  |succ j=>
   simp only [getElem?_cons_succ]at h;have c:q.1≠p.1:=fun e=>b.1 (e▸yL.2 ⟨p,zH h,rfl⟩);have:=ih b.2 h;unfold qdd at this⊢;rw [find?_cons];simp only [c,decide_false];exact this
theorem qnc [DecidableEq κ]{m:List (κ×ν)}{k:κ}{v:ν}(h:k∈m.map (·.1)):(setK m k v).map (·.1)=m.map (·.1):=by
 unfold setK;rw [zI h,map_map];refine xA fun p _=>?_;simp only [Function.comp];split
 ·rename_i e;exact e.symm
 ·rfl
theorem qqb [DecidableEq κ]{m:List (κ×ν)}(d:(m.map (·.1)).Nodup)(k:κ)(v:ν):((setK m k v).map (·.1)).Nodup:=by
 by_cases h:k∈m.map (·.1)
 ·rw [qnc h];exact d
 ·unfold setK;rw [zF h,zn,xW];exact⟨d,wC,fun a g b c e=>h (by simp at c;subst c;rw [←e];exact g)⟩
def MapIn (P:Program)(K:TypeId)(ek:κ->Value)(ev:ν->Value)(w:World)(b:Nat)(m:List (κ×ν)):Prop:=
 ∃es clock,w.heap[b]?=some (.map es clock)/\es.toList.map (fun e=>(e.key,e.val))=m.map (fun p=>(ek p.1,ev p.2))/\(m.map (·.1)).Nodup/\(∀p,p∈m-> ∃l,keyOf P K (ek p.1)=some l)/\(∀e∈es.toList,e.born<clock)/\(es.toList.map (·.born)).Nodup
variable {P : Program} {T K E : TypeId} {ek : κ -> Value} {ev : ν -> Value}
theorem MapIn.keep {w w':World}{b:Nat}{m:List (κ×ν)}{C:Nat->Prop}(h:MapIn P K ek ev w b m)(hK:Keep C w w')(l:C b):MapIn P K ek ev w' b m:=by
 obtain⟨d,c,e,g⟩:=h;exact⟨d,c,hK.heap e l,g⟩
theorem qh4 (w:World):MapIn P K ek ev (w.alloc (.map #[] 0)) w.heap.size ([]:List (κ×ν)):=⟨#[],0,qh w _,rfl,wC,wC,wC,wC⟩
theorem MapIn.lt {w:World}{b:Nat}{m:List (κ×ν)}(h:MapIn P K ek ev w b m):b<w.heap.size:=by
 obtain⟨e,c,d,g⟩:=h;exact qe d
theorem qul {w:World}{m:List (κ×ν)}{c:Array MapEntry}(R:KeyLaw P K)(s: ∀a b,ek a=ek b->a=b)(U:c.toList.map (fun e=>(e.key,e.val))=m.map (fun p=>(ek p.1,ev p.2)))(hn:(m.map (·.1)).Nodup)(y: ∀p,p∈m-> ∃l,keyOf P K (ek p.1)=some l)
  (k:κ) (Y: ∃l,keyOf P K (ek k)=some l):
  ((Instr.findKey K (ek k) c.toList).run P w=.ok none w/\k∉m.map (·.1))∨ ∃(j:Nat) (v:ν) (e:MapEntry),(Instr.findKey K (ek k) c.toList).run P w=.ok (some (j,ev v)) w/\c[j]?=some e/\e.key=ek k/\m[j]?=some (k,v):=by
 obtain⟨l,hl⟩:=Y;have d: ∀j:Nat,(c.toList[j]?).map (fun e=>(e.key,e.val))=(m[j]?).map (fun p=>(ek p.1,ev p.2)):=fun j=>by
  have:=yN (fun l=>l[j]?) U
  simpa only [zP]using this
 have u: ∀e,e∈c.toList-> ∃l,keyOf P K e.key=some l:=fun e q=>by
  obtain⟨j,x⟩:=zy.1 q;have h:=d j;rw [x]at h;cases g:m[j]? with
  |none=>simp [g] at h
  |some p=>
   rw [g]at h;simp at h;rw [h.1];exact y p (zH g)
 rcases R.find w hl c.toList u with ⟨h1,h3⟩ |⟨j,e,h1,h3,h4⟩
 ·refine .inl ⟨h1,fun t=>?_⟩;obtain⟨p,hp,rfl⟩:=yL.1 t;obtain⟨j,x⟩:=zy.1 hp;have h:=d j;rw [x]at h;cases q:c.toList[j]? with
  |none=>simp [q] at h
  |some e=>
   rw [q]at h;simp at h;exact h3 e (zH q) h.1
 ·have h:=d j;rw [h3]at h;cases g:m[j]? with
  |none=>simp [g] at h
  |some p=>
   rw [g]at h;simp at h;have z:p.1=k:=s _ _ (by rw [←h.1,h4]);refine .inr ⟨j,p.2,e,by rw [h1,h.2],by simpa using h3,h4,?_⟩;rw [g,←z]
theorem qd7 [DecidableEq κ](hT:P.underlying T=some (.map K E))(g:KeyLaw P K)(d: ∀a b,ek a=ek b->a=b){z:Value}(hz: ∀w,(zeroValue E).run P w=.ok z w){w:World}{b:Nat}{m:List (κ×ν)}(h:MapIn P K ek ev w b m)(k:κ)(hk: ∃l,keyOf P K (ek k)=some l)(p:Bool):
  (Instr.lookup T (.map (some b)) (ek k) p).run P w=.ok (match qdd m k with
   |some v=>if p then .tuple #[ev v,.bool true] else ev v
   |none=>if p then .tuple #[z,.bool false] else z) w:=by
 obtain⟨s,c,R,U,y,q,Y,aa⟩:=h;have u:(getObj b).run P w=.ok (.map s c) w:=by simp [getObj,Sem.run,R]
 obtain⟨l,x⟩:=hk;have t:=g.check w s.isEmpty x;rcases qul (w:=w) g d U y q k ⟨l,x⟩ with ⟨hf,hno⟩ |⟨j,v,e,hf,_,_,hj⟩
 ·rw [qly hno];cases p<;>simp [Instr.lookup,yq,ym hT,Result.andThen,u,t,hf,hz]
 ·have:=qo9 y hj;simp only at this;rw [this];cases p<;>simp [Instr.lookup,yq,ym hT,Result.andThen,u,t,hf]
theorem qiu [DecidableEq κ](hT:P.underlying T=some (.map K E))(ab:KeyLaw P K)(ae: ∀a b,ek a=ek b->a=b){w:World}{b:Nat}{m:List (κ×ν)}(h:MapIn P K ek ev w b m)(k:κ)(hk: ∃l,keyOf P K (ek k)=some l)(v:ν):
  ∃w',(Instr.mapUpdate T (.map (some b)) (ek k) (ev v)).run P w=.ok () w'/\MapIn P K ek ev w' b (setK m k v)/\Keep (fun j=>j≠b) w w'/\w'.heap.size=w.heap.size:=by
 obtain⟨d,c,h1,h2,hn,Y,R,ad⟩:=h;have hg:(getObj b).run P w=.ok (.map d c) w:=by simp [getObj,Sem.run,h1]
 have z: ∀o,(setObj b o).run P w=.ok () (w.putObj b o):=by intro o;simp [setObj,Sem.run,h1,World.putObj]
 have ak:=hk;obtain⟨l,hl⟩:=hk;have hc:=fun em=>ab.check w em hl;rcases qul (w:=w) ab ae h2 hn Y k ⟨l,hl⟩ with ⟨hf,hno⟩ |⟨j,v0,e,hf,s,hek,hj⟩
 ·refine⟨w.putObj b (.map (d.push {key:=ek k,val:=ev v,born:=c}) (c+1)),?_,?_,Keep.putObj _ _ _ wC,wC⟩
  ·simp [Instr.mapUpdate,yq,ym hT,Result.andThen,hg,hc,hf,z]
  ·refine⟨_,_,yz (qe h1),?_,qqb hn k v,?_,?_,?_⟩
   ·unfold setK;rw [zF hno];simp [h2]
   rotate_left
   ·intro e s;simp only [Array.toList_push,zr,zm]at s;rcases s with s |rfl
    ·have:=R e s;omega
    ·simp
   ·simp only [Array.toList_push,zn,yX,xi,xW];refine⟨ad,wC,fun a ha b hb e=>?_⟩;obtain⟨x,hx,rfl⟩:=yL.1 ha;simp only [zm]at hb;have:=R x hx;omega
   ·unfold setK;rw [zF hno];intro p u;rcases zr.1 u with u |u
    ·exact Y p u
    ·simp at u;subst u;exact ak
 ·have t:k∈m.map (·.1):=yL.2 ⟨_,zH hj,rfl⟩;have af:(d[j]?).map (·.key)=some (ek k):=by rw [s];simp [hek]
  have aa:=ab.stays w hl;refine⟨w.putObj b (.map (d.modify j fun e=>{e with key:=ek k,val:=ev v}) c),?_,?_,Keep.putObj _ _ _ wC,wC⟩
  ·simp [Instr.mapUpdate,yq,ym hT,Result.andThen,hg,hc,hf,z,af,aa]
  ·have aj: ∀i:Nat,((d.modify j fun e=>{e with key:=ek k,val:=ev v}).toList[i]?).map (·.born)=(d.toList[i]?).map (·.born):=by
    intro i;simp only [xg,Array.getElem?_modify];by_cases hi:j=i
    ·subst hi;rw [s];simp
    ·simp [hi]
   have g:(d.modify j fun e=>{e with key:=ek k,val:=ev v}).toList.map (·.born)=d.toList.map (·.born):=xX fun i=>by
    rw [zP,zP];exact aj i
   refine⟨_,_,yz (qe h1),?_,qqb hn k v,?_,?_,by rw [g];exact ad⟩
   rotate_right
   ·intro x hx;have:x.born∈(d.modify j fun e=>{e with key:=ek k,val:=ev v}).toList.map (·.born):=yL.2 ⟨x,hx,rfl⟩;rw [g]at this;obtain⟨y,hy,ap⟩:=yL.1 this;rw [←ap];exact R y hy
   ·unfold setK;rw [zI t];apply xX;intro i;have U:=yN (fun l=>l[i]?) h2;simp only [zP]at U;simp only [zP,xg,Array.getElem?_modify]at U⊢;by_cases hi:j=i
    ·subst hi;rw [hj,s];simp
    ·simp only [hi,yy];rw [U];cases hm:m[i]? with
     |none=>rfl
     |some q=>
      have hq:q.1≠k:=fun e=>by
       have h3:(m.map (·.1))[i]?=some k:=by rw [zP,hm];simp [e]
       have h4:(m.map (·.1))[j]?=some k:=by rw [zP,hj];rfl
       exact hi ((xw (zA.1 h4).1 hn).1 (h4.trans h3.symm))
      simp [hq]
   ·intro p u;have:p.1∈(setK m k v).map (·.1):=yL.2 ⟨p,u,rfl⟩;rw [qnc t]at this;obtain⟨q,hq,an⟩:=yL.1 this;rw [←an];exact Y q hq
def MapRange (P:Program)(K:TypeId)(ek:κ->Value)(ev:ν->Value)(w:World)(b r:Nat)(m:List (κ×ν))(left:κ->Bool)(cnt:Nat):Prop:=
 ∃es clock since seen c0,w.heap[b]?=some (.map es clock)/\es.toList.map (fun e=>(e.key,e.val))=m.map (fun p=>(ek p.1,ev p.2))/\(m.map (·.1)).Nodup/\(∀p,p∈m-> ∃l,keyOf P K (ek p.1)=some l)/\(∀e∈es.toList,e.born<clock)/\(es.toList.map (·.born)).Nodup/\
  w.heap[r]?=some (.mapIter (some b) since seen c0)/\(∀e∈es.toList,e.born<since)/\since<=c0/\since<=clock/\(leftOf es seen).size=cnt/\ ∀(j:Nat) e p,es.toList[j]?=some e->m[j]?=some p->left p.1=!seen.contains e.born
theorem MapRange.keep {w w':World}{b r cnt:Nat}{m:List (κ×ν)}{d:κ->Bool}{C:Nat->Prop}(h:MapRange P K ek ev w b r m d cnt)(hK:Keep C w w')(z:C b)(R:C r):MapRange P K ek ev w' b r m d cnt:=by
 obtain⟨g,c,s,U,e,l,p,q,t,u,v,x,y⟩:=h;exact⟨g,c,s,U,e,hK.heap l z,p,q,t,u,v,hK.heap x R,y⟩
theorem MapRange.lt {w:World}{b r cnt:Nat}{m:List (κ×ν)}{d:κ->Bool}(h:MapRange P K ek ev w b r m d cnt):r<w.heap.size:=by
 obtain⟨l,c,s,z,g,p,q,t,u,v,x,e,y⟩:=h;exact qe e
theorem q2d {w:World}{b:Nat}{m:List (κ×ν)}(hT:P.underlying T=some (.map K E))(h:MapIn P K ek ev w b m):
  ∃w',(Instr.range T (.map (some b))).run P w=.ok (.pointer (some ⟨w.heap.size,0,none⟩)) w'/\MapRange P K ek ev w' b w.heap.size m (fun _=>true) m.length/\wE w w'/\w'.heap.size=w.heap.size+1:=by
 obtain⟨d,c,g,l,s,t,q,u⟩:=h;refine⟨_,run_range_map w T K E b d c hT g,⟨d,c,c,#[],c,qf0 g _,l,s,t,q,u,qh _ _,q,zG _,zG _,?_,?_⟩,kAl,wC⟩
 ·have:=yN List.length l;simp at this;rw [←this];simp [leftOf]
 ·intro j e p _ _;simp
theorem q5p {w:World}{b r cnt:Nat}{m:List (κ×ν)}{s:κ->Bool}[DecidableEq κ](ty:TypeId)(h:MapRange P K ek ev w b r m s cnt):
  (cnt=0/\(∀p∈m,s p.1=false)/\(Instr.next (.pointer (some ⟨r,0,none⟩)) false ty).run P w=.ok (.tuple #[.bool false]) w)∨
  ∃k v w' cnt',(k,v)∈m/\s k=true/\(Instr.next (.pointer (some ⟨r,0,none⟩)) false ty).run P w=.ok (.tuple #[.bool true,ek k,ev v]) w'/\MapRange P K ek ev w' b r m (fun x=>s x&&decide (x≠k)) cnt'/\cnt'<cnt/\Keep (fun j=>j≠r) w w'/\w'.heap.size=w.heap.size/\
   (Instr.entry (.pointer (some ⟨r,0,none⟩))).run P w'=.ok (.tuple #[ek k,ev v]) w':=by
 obtain⟨y,c,d,g,c0,hb,h2,hn,av,ao,R,hr,hold,ax,af,rfl,hl⟩:=h;have al: ∀j:Nat,(y.toList[j]?).map (fun e=>(e.key,e.val))=(m[j]?).map (fun p=>(ek p.1,ev p.2)):=fun j=>by
  have:=yN (fun l=>l[j]?) h2
  simpa only [zP]using this
 have aB:y.toList.length=m.length:=by have:=yN List.length h2;simpa using this
 have au:r≠b:=fun e=>by rw [e,hb] at hr;cases hr
 rcases run_next_at (P:=P) w ty r b d c0 g y c hr hb hold ax with ⟨h0,hrun⟩ |⟨e,he,w1,hal,hrun⟩
 ·refine .inl ⟨h0,fun p Y=>?_,hrun⟩;obtain⟨j,z⟩:=zy.1 Y;have aq:=(zA.1 z).1;obtain⟨e,he⟩: ∃e,y.toList[j]?=some e:=⟨_,zB wA⟩;rw [hl j e p he z,all_seen y g h0 e (zH he)]
  rfl
 ·obtain⟨ae,ap⟩:=mem_left he;obtain⟨j,z⟩:=zy.1 ae;have aq:=(zA.1 z).1;obtain⟨p,Y⟩: ∃p,m[j]?=some p:=⟨_,zB wA⟩;have u:=al j;rw [z,Y]at u;simp only [Option.map_some,yb,Prod.mk.injEq]at u;have aw:w1.heap[r]?=some (.mapIter (some b) d g c0):=by rcases hal with rfl |rfl<;>exact hr
  have an:w1.heap[b]?=some (.map y c):=by rcases hal with rfl |rfl<;>exact hb
  have t:=Go.MapKept.heap_set (o':=.mapIter (some b) d (g.push e.born) c) aw;have ab:(Go.ChangeMaps.setBlock w1 r (.mapIter (some b) d (g.push e.born) c)).heap[b]?=some (.map y c):=(t.2 b (fun e1=>au e1.symm)).trans an;refine .inr ⟨p.1,p.2,_,_,zH Y,?_,by rw [←u.1,←u.2];exact hrun,⟨y,c,d,g.push e.born,c,ab,h2,hn,av,ao,R,t.1,hold,af,af,rfl,?_⟩,left_shrinks y g e he,?_,?_,by rw [←u.1,←u.2];exact run_entry_at _ r b d g y c e t.1 ab ae R⟩
  ·rw [hl j e p z Y,ap];rfl
  ·intro i x q hx hq;show(s q.1&&decide (q.1≠p.1))=_;rw [hl i x q hx hq,contains_push];by_cases U:i=j
   ·subst U;rw [z]at hx;cases hx;rw [Y]at hq;cases hq;simp
   ·have h1:q.1≠p.1:=fun e1=>by
     have q1:(m.map (·.1))[i]?=some q.1:=by rw [zP,hq];rfl
     have q2:(m.map (·.1))[j]?=some q.1:=by rw [zP,Y,e1];rfl
     exact U ((xw (zA.1 q1).1 hn).1 (q1.trans q2.symm))
    have h3:(x.born==e.born)=false:=by
     rw [y7];intro e1;have q1:(y.toList.map (·.born))[i]?=some x.born:=by rw [zP,hx];rfl
     have q2:(y.toList.map (·.born))[j]?=some x.born:=by rw [zP,z,e1];rfl
     exact U ((xw (zA.1 q1).1 R).1 (q1.trans q2.symm))
    simp [h1,h3]
  ·rcases hal with rfl |rfl<;>exact⟨rfl,rfl,rfl,by simp [Go.ChangeMaps.setBlock],fun i _ hi=>t.2 i hi⟩
  ·rcases hal with rfl |rfl<;>simp [Go.ChangeMaps.setBlock]
variable {ops : Array Oper} {rest : List Oper} {o : Oper} {a : Act} {Q : Exit -> Act -> World -> Prop}
theorem qzr {w:World}{b:Nat}{m:List (κ×ν)}(g:o.guard=none)(x:Operand)(t:TypeId)(e:o.op=Op.range t x)(hT:P.underlying t=some (.map K E))(l:a.eval x=.map (some b))(h:MapIn P K ek ev w b m)
  (hK: ∀w',MapRange P K ek ev w' b w.heap.size m (fun _=>true) m.length->wE w w'->w'.heap.size=w.heap.size+1->wpList P ops Q rest (a.put o.dst (.pointer (some ⟨w.heap.size,0,none⟩))) w'):
  wpList P ops Q (o::rest) a w:=by
 refine wpList_plain g fun u d=>?_;obtain⟨w',c,p,q,s⟩:=q2d hT h;unfold Oper.wp;simp [execOp,e,l,c,Result.andThen];exact d _ _ (hK w' p q s)
theorem q2e {w:World}{b r cnt:Nat}{m:List (κ×ν)}{c:κ->Bool}[DecidableEq κ](s:o.guard=none)(it:Operand)(q:o.op=Op.next it false)(l:a.eval it=.pointer (some ⟨r,0,none⟩))(h:MapRange P K ek ev w b r m c cnt)
  (d:cnt=0->(∀p∈m,c p.1=false)->wpList P ops Q rest (a.put o.dst (.tuple #[.bool false])) w)
  (e: ∀(k:κ) (v:ν) (w':World) (cnt':Nat),(k,v)∈m->c k=true->MapRange P K ek ev w' b r m (fun x=>c x&&decide (x≠k)) cnt'->cnt'<cnt->Keep (fun j=>j≠r) w w'->w'.heap.size=w.heap.size->
   (Instr.entry (.pointer (some ⟨r,0,none⟩))).run P w'=.ok (.tuple #[ek k,ev v]) w'->wpList P ops Q rest (a.put o.dst (.tuple #[.bool true,ek k,ev v])) w'):
  wpList P ops Q (o::rest) a w:=by
 refine wpList_plain s fun t g=>?_;unfold Oper.wp;rcases q5p o.type h with ⟨h0,hl,hrun⟩ |⟨k,v,w',cnt',h1,h2,hrun,h3,h4,h5,h6,h7⟩
 ·simp [execOp,q,l,hrun,Result.andThen];exact g _ _ (d h0 hl)
 ·simp [execOp,q,l,hrun,Result.andThen];exact g _ _ (e k v w' cnt' h1 h2 h3 h4 h5 h6 h7)
end
section
variable {κ ν : Type} {P : Program} {T K E : TypeId} {ek : κ -> Value} {ev : ν -> Value}
theorem qzs [DecidableEq κ](hT:P.underlying T=some (.map K E))(ak:KeyLaw P K)(g: ∀a b,ek a=ek b->a=b){z:Value}(hz: ∀w:World,(zeroValue E).run P w=.ok z w){w:World}{b:Nat}{m:List (κ×ν)}(h:MapIn P K ek ev w b m)(ay:m.length<=maxLen)(k:κ)(hk: ∃l,keyOf P K (ek k)=some l):
  ∃(v0:Value) (st:Int) (w1:World),(Instr.mapEntry T (.map (some b)) (ek k)).run P w=.ok (.tuple #[v0,.int .i64 st]) w1/\((∃v,(k,v)∈m/\v0=ev v)∨(k∉m.map (·.1)/\v0=z))/\
   Keep (fun j=>j≠b) w w1/\w1.heap.size=w.heap.size/\
   ∀(w2:World),w2.heap[b]?=w1.heap[b]?-> ∀v:ν,∃w3,(Instr.entryStore T (.map (some b)) (.int .i64 st) (ev v)).run P w2=.ok () w3/\MapIn P K ek ev w3 b (setK m k v)/\Keep (fun j=>j≠b) w2 w3/\w3.heap.size=w2.heap.size:=by
 obtain⟨t,c,h1,h2,hn,au,am,an⟩:=id h;obtain⟨l,hl⟩:=id hk;have ae: ∀j:Nat,(t.toList[j]?).map (fun e=>(e.key,e.val))=(m[j]?).map (fun p=>(ek p.1,ev p.2)):=fun j=>by
  have:=yN (fun l=>l[j]?) h2
  simpa only [zP]using this
 have ah:t.toList.length=m.length:=by have:=yN List.length h2;simpa using this
 have s: ∀e,e∈t.toList-> ∃p,p∈m/\e.key=ek p.1/\e.val=ev p.2:=fun e he=>by
  obtain⟨j,hj⟩:=zy.1 he;have ao:=(zA.1 hj).1;obtain⟨p,q⟩: ∃p,m[j]?=some p:=⟨_,zB wA⟩;have:=ae j;rw [hj,q]at this;simp only [Option.map_some,yb,Prod.mk.injEq]at this;exact⟨p,zH q,this.1,this.2⟩
 have R: ∀p,p∈m-> ∃e,e∈t.toList/\e.key=ek p.1/\e.val=ev p.2:=fun p q=>by
  obtain⟨j,hj⟩:=zy.1 q;have ao:=(zA.1 hj).1;obtain⟨e,he⟩: ∃e,t.toList[j]?=some e:=⟨_,zB wA⟩;have:=ae j;rw [hj,he]at this;simp only [Option.map_some,yb,Prod.mk.injEq]at this;exact⟨e,zH he,this.1,this.2⟩
 have U:t.toList.map (·.key)=(m.map (·.1)).map ek:=by
  have:=yN (List.map Prod.fst) h2
  simpa [map_map,Function.comp_def]using this
 have af:Go.WideElems.Fit (H:=Unit) P K (fun _=>some (.nil,[])) t c:=by
  refine⟨by rw [←Array.length_toList,ah];exact ay,⟨am,an,?_⟩,fun x hx=>?_⟩
  ·rw [U];exact List.Pairwise.map ek (fun a b ar e=>ar (g a b e)) hn
  ·obtain⟨p,q,e1,_⟩:=s x hx;obtain⟨l,hl⟩:=au p q;exact⟨(l,.nil),by simp [Go.WideElems.rd,e1,hl]⟩
 obtain⟨v0,st,aE,c1,aj,hv,ax⟩:=Go.WideElems.entry_then_store (P:=P) ak hT hz h1 af hl;have d: ∀(u:World) (o:Obj),b<u.heap.size->(Go.ChangeMaps.setBlock u b o).heap[b]?=some o/\Keep (fun j=>j≠b) u (Go.ChangeMaps.setBlock u b o)/\(Go.ChangeMaps.setBlock u b o).heap.size=u.heap.size:=fun u o hb=>by
  refine⟨by simp [Go.ChangeMaps.setBlock,hb],⟨rfl,rfl,rfl,by simp [Go.ChangeMaps.setBlock],fun i _ hi=>?_⟩,by simp [Go.ChangeMaps.setBlock]⟩;simp only [Go.ChangeMaps.setBlock];rw [Array.getElem?_setIfInBounds_ne (fun e=>hi e.symm)]
 have hb:=qe h1;refine⟨v0,st,_,aj,?_,(d w _ hb).2.1,(d w _ hb).2.2,fun w2 Y v=>?_⟩
 ·rcases hv with ⟨e0,he0,hek,hev⟩ |⟨hno,hz0⟩
  ·obtain⟨p,q,e1,e2⟩:=s e0 he0;have:p.1=k:=g _ _ (by rw [←e1,hek]);exact .inl ⟨p.2,by rw [←this];exact q,by rw [hev,e2]⟩
  ·refine .inr ⟨fun ap=>?_,hz0⟩;obtain⟨p,q,rfl⟩:=yL.1 ap;obtain⟨e,he,e1,_⟩:=R p q;exact hno e he e1
 ·rw [(d w _ hb).1]at Y;obtain⟨aD,c',av,aw⟩:=ax w2 (ev v) Y;obtain⟨w',ai,hM,_,_⟩:=qiu hT ak g h k hk v;rw [aw]at ai;cases ai;obtain⟨aF,c2,q1,q2,q3,q4,q5,q6⟩:=hM;rw [(d w _ hb).1]at q1;cases q1;have y:=qe Y;exact⟨_,av,⟨_,_,(d w2 _ y).1,q2,q3,q4,q5,q6⟩,(d w2 _ y).2.1,(d w2 _ y).2.2⟩
end
end Go.Ink
namespace Go.Ink
open Go.RowKit
structure qgk (Γ:Type) where
 inv:Γ->World->Prop
 free:Γ->Nat->Prop
 istep:Γ->World->Γ->World->Prop
 bstep:Γ->Nat->Γ->Prop
 ifree: ∀{γ X γ' Y},istep γ X γ' Y->Keep (free γ) X Y
 inew: ∀{γ X γ' Y},istep γ X γ' Y-> ∀b,b<X.heap.size->free γ b->free γ' b
 bnew: ∀{γ n γ'},bstep γ n γ'-> ∀b,b<n->free γ b->free γ' b
 bmono: ∀{γ n n0 γ'},n0<=n->bstep γ n γ'->bstep γ n0 γ'
 invk: ∀{γ X Y},inv γ X->Keep (fun b=> ¬free γ b) X Y->inv γ Y
variable {Γ : Type}
def qh5 (Sy:qgk Γ)(V:World->Prop)(J Jx:Nat->Γ->World->Prop)(k:Nat)(γ:Γ)(X:World)(e:Ending)(Y:World):Prop:=
 ∃γ',Sy.inv γ' Y/\V Y/\Sy.bstep γ X.heap.size γ'/\X.heap.size<=Y.heap.size/\((e=.returned (.bool true)/\J (k+1) γ' Y)∨(e=.returned (.bool false)/\Jx k γ' Y))
def qtr (P:Program)(g:Nat)(lb:Array Value)(Sy:qgk Γ)(N:Γ->Nat)(A:Γ->Nat->Γ->Nat->World->Array Value->Prop)(V:World->Prop)(U:Nat->Prop):Prop:=
 ∀(l:Nat) (J Jx:Nat->Γ->World->Prop) (W:World) (γ0:Γ),l<W.heap.size->Sy.inv γ0 W->V W->(∀b,U b->Sy.free γ0 b)->
  (∀k γ X γ' Y,J k γ X->Sy.istep γ X γ' Y->J k γ' Y)->
  (∀k γ X γ' Y,Jx k γ X->Sy.istep γ X γ' Y->Jx k γ' Y)->
  (∀k γ X0 X args,k<N γ0->J k γ X0->Sy.istep γ X0 γ X->Sy.inv γ X->V X->W.heap.size<=X0.heap.size->A γ0 k γ X0.heap.size X args->YieldAt Fence.wide 0 P l args X (qh5 Sy V J Jx k γ X))->
  J 0 γ0 W->
  Calls P g (#[.func (.yield l) #[] #[]]++lb) W fun e W'=>(∃v,e=.returned v)/\W.heap.size<=W'.heap.size/\
   ∃γ',Sy.inv γ' W'/\V W'/\(J (N γ0) γ' W'∨ ∃k,k<N γ0/\Jx k γ' W')
def qfl (Sy:qgk Γ)(B l n:Nat)(V:World->Prop)(γ:Γ)(Y0 Y:World)(R:Γ->Prop):Prop:=
 ∃γ',Sy.inv γ' Y/\V Y/\Sy.bstep γ n γ'/\Keep (fun b=>B<=b/\b<=l) Y0 Y/\R γ'
def q86 (Sy:qgk Γ)(B l n:Nat)(V:World->Prop)(I:Nat->Γ->World->Prop)(Ix:Code->Nat->Γ->World->Prop)(k:Nat)(γ:Γ)(Y0:World):Exit->Act->World->Prop
 |.normal,_,Y=>qfl Sy B l n V γ Y0 Y fun γ'=>I (k+1) γ' Y
 |.ret,_,Y=>qfl Sy B l n V γ Y0 Y fun γ'=>Ix .ret k γ' Y
 |.exit id,_,Y=>qfl Sy B l n V γ Y0 Y fun γ'=>Ix (.exit id) k γ' Y
 |.goto t,_,Y=>qfl Sy B l n V γ Y0 Y fun γ'=>Ix (.goto t) k γ' Y
 |.panic _,_,_=>False
 |.outgrown,_,_=>False
def qx7 (Sy:qgk Γ)(P:Program)(l B:Nat)(body:Code)(V:World->Prop)(I:Nat->Γ->World->Prop)(Ix:Code->Nat->Γ->World->Prop)(k:Nat)(γ:Γ)(X:World)(a₁:Act)(X₁:World):Prop:=
 Keep (fun b=>b<X.heap.size) X X₁/\
  ∀Y,Keep (fun b=>b≠l) X₁ Y->Y.heap.size=X₁.heap.size->(∃r,Y.heap[l]?=some (.loop r))->body.wpIn (inR l) 0 P (q86 Sy B l X.heap.size V I Ix k γ Y) a₁ Y
theorem q2f {P:Program}{fn:FuncId}{l B:Nat}{rec:LoopState->Option Code->Loop}{tmps0:Array Value}{ps:Array Tmp}{assign body:Code}{df:Nat}(u:qgk Γ)
  (q:rec=fun st pe=>{state:=st,pending:=pe,fn:=fn,tmps:=tmps0,params:=ps,assign:=assign,body:=body,defers:=df})
  (hlB:B<=l) {args:Array Value} (hps:args.size=ps.size) {V:World->Prop} (hVst: ∀X Y,V X->Keep (fun b=>b<B) X Y->V Y)
  {I:Nat->Γ->World->Prop} {Ix:Code->Nat->Γ->World->Prop}
  (hI: ∀k γ X Y,I k γ X->Keep (fun b=>b≠l) X Y->I k γ Y) (hIx: ∀c k γ X Y,Ix c k γ X->Keep (fun b=>b≠l) X Y->Ix c k γ Y)
  (X:World) (k:Nat) (γ:Γ) (hfl:u.free γ l) (hl:X.heap[l]?=some (.loop (rec .ready none)))
  (hround:assign.wpIn (inR l) 0 P (Exit.then (qx7 u P l B body V I Ix k γ X) (fun _ _ _=>False)) {tmps:=(ps.zip args).foldl (fun t (p,v)=>t.setIfInBounds p v) tmps0,defers:= []} X):
  YieldAt Fence.wide 0 P l args X (qh5 u V
   (fun k γ W=>I k γ W/\u.free γ l/\W.heap[l]?=some (.loop (rec .ready none)))
   (fun k γ W=> ∃c,Ix c k γ W/\u.free γ l/\W.heap[l]?=some (.loop (rec .done (some c)))) k γ X):=by
 have hy:=run_yield (P:=P) (args:=args) hl (by rw [q];exact hps);rw [q]at hy;have ad:=qe hl;refine⟨fn,_,assign,body,hy,roundIn_of_wpIn (F:=Fence.wide) trivial (xq hround ?_)⟩;intro e a₁ X₁ he;cases e with
 |normal=>
  obtain⟨am,hb⟩:=he;have ab:X₁.heap[l]?=some (.loop (rec .ready none)):=am.heap hl ad;refine⟨_,run_beginRound ab (by rw [q]),?_⟩;have ag:(X₁.putObj l (.loop {rec .ready none with state:=.busy})).heap[l]?=some (.loop {rec .ready none with state:=.busy}):=yz (qe ab);have af:Keep (fun b=>b≠l) X₁ (X₁.putObj l (.loop {rec .ready none with state:=.busy})):=Keep.putObj _ _ _ wC;refine xq (hb _ af wC ⟨_,ag⟩) ?_;generalize hY0:X₁.putObj l (.loop {rec .ready none with state:=.busy})=Y0 at ag af;clear hY0 hb;have y: ∀(g:Option Code) (Y:World) (R:Γ->Prop),qfl u B l X.heap.size V γ Y0 Y R->
    ∃x,(Instr.endRound l g).run P Y=.ok (.bool g.isNone) x/\x.heap[l]?=some (.loop (rec (if g.isNone then .ready else .done) g))/\Keep (fun b=>b≠l) Y x/\
    ∃s,u.inv s x/\V x/\u.bstep γ X.heap.size s/\X.heap.size<=x.heap.size/\u.free s l/\R s:=by
   rintro g Y R ⟨s,hinv,U,d,hK,z⟩;have an:Y.heap[l]?=some (.loop {rec .ready none with state:=.busy}):=hK.heap ag ⟨hlB,zG _⟩;have:=run_endRound (P:=P) g an;have aa:=u.bnew d l ad hfl;refine⟨_,this,?_,Keep.putObj _ _ _ wC,s,u.invk hinv (Keep.putObj _ _ _ (by simpa using aa)),hVst _ _ U (Keep.putObj _ _ _ (by simp;omega)),d,?_,aa,z⟩
   ·rw [yz (qe an)];subst q;rfl
   ·have h1:=am.size;have h2:=af.size;have h3:=hK.size;simp;omega
  rintro e a3 Y hp;cases e with
  |normal=>
   obtain⟨x,hr,m,h,s,hinv,U,d,hz,hf,z⟩:=y none Y _ hp;exact⟨_,_,hr,s,hinv,U,d,hz,.inl ⟨rfl,hI _ _ _ _ z h,hf,m⟩⟩
  |ret=>
   obtain⟨x,hr,m,h,s,hinv,U,d,hz,hf,z⟩:=y (some .ret) Y _ hp;exact⟨_,_,hr,s,hinv,U,d,hz,.inr ⟨rfl,.ret,hIx _ _ _ _ _ z h,hf,m⟩⟩
  |exit id=>
   obtain⟨x,hr,m,h,s,hinv,U,d,hz,hf,z⟩:=y (some (.exit id)) Y _ hp;exact⟨_,_,hr,s,hinv,U,d,hz,.inr ⟨rfl,.exit id,hIx _ _ _ _ _ z h,hf,m⟩⟩
  |goto t=>
   obtain⟨x,hr,m,h,s,hinv,U,d,hz,hf,z⟩:=y (some (.goto t)) Y _ hp;exact⟨_,_,hr,s,hinv,U,d,hz,.inr ⟨rfl,.goto t,hIx _ _ _ _ _ z h,hf,m⟩⟩
  |panic ch=>exact hp.elim
  |outgrown=>exact hp.elim
 |ret=>exact he.elim
 |exit id=>exact he.elim
 |goto t=>exact he.elim
 |panic c=>exact he.elim
 |outgrown=>exact he.elim
theorem qnd {P:Program}{g:Operand}{ps:Array Tmp}{assign body:Code}{Q:Exit->Act->World->Prop}{a:Act}{w:World}(d:qgk Γ)(x:Γ)
  {gf:Nat} {lb:Array Value} (hg:a.eval g=.func (.func gf) #[] lb) (eg: ∀args w,(callFunc gf args).run P w=.ok (.enter gf args) w)
  {N:Γ->Nat} {A:Γ->Nat->Γ->Nat->World->Array Value->Prop} {V:World->Prop} {U:Nat->Prop} (aD:qtr P gf lb d N A V U) (hU: ∀b,U b->d.free x b) (aF: ∀x k γ n X args,A x k γ n X args->args.size=ps.size)
  (ad:d.inv x w) (u: ∀b,w.heap.size<=b->d.free x b) (ax:V w) (q: ∀X Y,V X->Keep (fun b=>b<w.heap.size) X Y->V Y)
  (I:Nat->Γ->World->Prop) (Ix:Code->Nat->Γ->World->Prop)
  (hI: ∀k γ X Y,I k γ X->Keep (fun b=>b<w.heap.size∨w.heap.size+2<=b) X Y->I k γ Y) (aj: ∀c k γ X Y,Ix c k γ X->Keep (fun b=>b<w.heap.size∨w.heap.size+2<=b) X Y->Ix c k γ Y)
  (ai: ∀k γ X γ' Y,I k γ X->d.istep γ X γ' Y->I k γ' Y) (ak: ∀c k γ X γ' Y,Ix c k γ X->d.istep γ X γ' Y->Ix c k γ' Y)
  (h0:I 0 x w)
  (ab: ∀l k γ X0 X args,w.heap.size<=l->l<X0.heap.size->(d.free γ l/\d.free γ w.heap.size/\l=w.heap.size+1)->k<N x->I k γ X0->d.istep γ X0 γ X->d.inv γ X->V X->w.heap.size+2<=X0.heap.size->A x k γ X0.heap.size X args->assign.wpIn (inR l) 0 P (Exit.then (qx7 d P l w.heap.size body V I Ix k γ X) (fun _ _ _=>False)) {tmps:=(ps.zip args).foldl (fun t (p,v)=>t.setIfInBounds p v) a.tmps,defers:= []} X)
  (hdone: ∀D γ W,(w.heap.size<=D/\D<=w.heap.size)->d.free γ D->W.heap[D]?=some (.deferred (some []))->w.heap.size<=W.heap.size->I (N x) γ W->d.inv γ W->V W->Q .normal {a with defers:={target:=.collected D,args:= #[]}::a.defers} W)
  (hstop: ∀D c k γ W,(w.heap.size<=D/\D<=w.heap.size)->d.free γ D->W.heap[D]?=some (.deferred (some []))->w.heap.size<=W.heap.size->k<N x->Ix c k γ W->d.inv γ W->V W->c.wpIn Fence.wide 0 P Q {a with defers:={target:=.collected D,args:= #[]}::a.defers} W):
  (Code.rangeFunc g ps assign body).wpIn Fence.wide 0 P Q a w:=by
 obtain⟨W1,y⟩:=ex ((w.alloc (.deferred (some []))).alloc (.deferred (some [])));have aG:W1.heap.size=w.heap.size+2:=by rw [←y];simp
 have au:W1.heap[w.heap.size]?=some (.deferred (some [])):=by
  rw [←y];exact(xM _ _ _ wC).trans (xN w _)
 have aa:wE w W1:=by rw [←y];exact(Keep.alloc _ w _).trans kAl
 refine wpIn_rangeFunc ?_;intro fn _;obtain⟨W2,aq,ao,aX,aE,ap⟩: ∃W1',(Instr.enterLoop fn a.tmps ps assign body Fence.wide.round).run P w=.ok (w.heap.size+1,[{target:=.collected w.heap.size,args:= #[]}]) W1'/\wE w W1'/\W1'.heap.size=W1.heap.size/\
    W1'.heap[w.heap.size+1]?=some (.loop {state:=.ready,pending:=none,fn:=fn,tmps:=a.tmps,params:=ps,assign:=assign,body:=body,defers:=w.heap.size})/\Keep (fun b=>b≠w.heap.size+1) W1 W1':=by
  refine⟨_,run_enterLoop_outer _ _ _ _ _,(Keep.alloc _ w _).trans kAl,by rw [aG];simp,?_,?_⟩
  ·have:=xN (w.alloc (.deferred (some []))) (.loop {state:=.ready,pending:=none,fn:=fn,tmps:=a.tmps,params:=ps,assign:=assign,body:=body,defers:=w.heap.size})
   rwa [zO] at this
  ·rw [←y];refine⟨rfl,rfl,rfl,wC,fun k hk hC=>?_⟩;have an:k<(w.alloc (.deferred (some []))).heap.size:=by simp at hk⊢;omega
   rw [xM _ _ _ an,xM _ _ _ an]
 refine⟨w.heap.size+1,_,W2,{target:=.fn (.func gf) lb,args:= #[.func (.yield (w.heap.size+1)) #[] #[]]},W2,gf,#[.func (.yield (w.heap.size+1)) #[] #[]]++lb,W2,aq,?_,fun f' _=>wF,?_,fun h=>by have aw:Fence.wide.depth=none:=rfl;simp [aw] at h,?_⟩
 ·simp only [resolve,hg];simp [go_sem]
 ·simp [invoke,go_sem,eg]
 ·have av:W2.heap[w.heap.size]?=some (.deferred (some [])):=ap.heap au wA;have z:=aD (w.heap.size+1)
   (fun k γ W=>(I k γ W/\d.free γ w.heap.size/\W.heap[w.heap.size]?=some (.deferred (some [])))/\d.free γ (w.heap.size+1)/\W.heap[w.heap.size+1]?=some (.loop {state:=.ready,pending:=none,fn:=fn,tmps:=a.tmps,params:=ps,assign:=assign,body:=body,defers:=w.heap.size}))
   (fun k γ W=> ∃c,(Ix c k γ W/\d.free γ w.heap.size/\W.heap[w.heap.size]?=some (.deferred (some [])))/\d.free γ (w.heap.size+1)/\W.heap[w.heap.size+1]?=some (.loop {state:=.done,pending:=some c,fn:=fn,tmps:=a.tmps,params:=ps,assign:=assign,body:=body,defers:=w.heap.size}))
   W2 x wA (d.invk ad ao.mt) (q _ _ ax ao.mt) hU
   (fun k γ X γ' Y h s=>⟨⟨ai k γ X γ' Y h.1.1 s,d.inew s _ (qe h.1.2.2) h.1.2.1,(d.ifree s).heap h.1.2.2 h.1.2.1⟩,d.inew s _ (qe h.2.2) h.2.1,(d.ifree s).heap h.2.2 h.2.1⟩)
   (fun k γ X γ' Y h s=>by
    obtain⟨c,h1,h2,h3⟩:=h;exact⟨c,⟨ak c k γ X γ' Y h1.1 s,d.inew s _ (qe h1.2.2) h1.2.1,(d.ifree s).heap h1.2.2 h1.2.1⟩,d.inew s _ (qe h3) h2,(d.ifree s).heap h3 h2⟩)
   (fun k γ X0 X args hk h00 hist hinv hV hz hA=>by
    have h:(I k γ X/\d.free γ w.heap.size/\X.heap[w.heap.size]?=some (.deferred (some [])))/\d.free γ (w.heap.size+1)/\X.heap[w.heap.size+1]?=some (.loop {state:=.ready,pending:=none,fn:=fn,tmps:=a.tmps,params:=ps,assign:=assign,body:=body,defers:=w.heap.size}):=⟨⟨ai k γ X0 γ X h00.1.1 hist,h00.1.2.1,(d.ifree hist).heap h00.1.2.2 h00.1.2.1⟩,h00.2.1,(d.ifree hist).heap h00.2.2 h00.2.1⟩;have:=q2f (P:=P) (fn:=fn) (l:=w.heap.size+1) (B:=w.heap.size) (tmps0:=a.tmps) (ps:=ps) (assign:=assign) (body:=body) (df:=w.heap.size) d
     (rec:=fun st pe=>{state:=st,pending:=pe,fn:=fn,tmps:=a.tmps,params:=ps,assign:=assign,body:=body,defers:=w.heap.size}) rfl wA (aF _ _ _ _ _ _ hA) q
     (I:=fun k γ W=>I k γ W/\d.free γ w.heap.size/\W.heap[w.heap.size]?=some (.deferred (some [])))
     (Ix:=fun c k γ W=>Ix c k γ W/\d.free γ w.heap.size/\W.heap[w.heap.size]?=some (.deferred (some [])))
     (fun k γ X Y h hK=>⟨hI k γ X Y h.1 (hK.mono fun b _ h=>wA),h.2.1,hK.heap h.2.2 wA⟩)
     (fun c k γ X Y h hK=>⟨aj c k γ X Y h.1 (hK.mono fun b _ h=>wA),h.2.1,hK.heap h.2.2 wA⟩)
     X k γ h.2.1 h.2.2 (by
      refine xq (ab (w.heap.size+1) k γ X0 X args wA (qe h00.2.2) ⟨h.2.1,h.1.2.1,rfl⟩ hk h00.1.1 hist hinv hV wA hA) ?_;intro e a₁ X₁ he;cases e with
      |normal=>
       obtain⟨aa,hb⟩:=he;refine⟨aa,fun Y hY s hl=>xq (hb Y hY s hl) ?_⟩;have ay:Y.heap[w.heap.size]?=some (.deferred (some [])):=hY.heap (aa.heap h.1.2.2 (by have:=qe h.1.2.2;omega)) wA;have m: ∀(R:Γ->Prop) (Z:World),qfl d w.heap.size (w.heap.size+1) X.heap.size V γ Y Z R->qfl d w.heap.size (w.heap.size+1) X.heap.size V γ Y Z (fun γ'=>R γ'/\d.free γ' w.heap.size/\Z.heap[w.heap.size]?=some (.deferred (some []))):=by
        rintro R Z ⟨γ',q1,q2,q3,q4,q5⟩;exact⟨γ',q1,q2,q3,q4,q5,d.bnew q3 _ (qe h.1.2.2) h.1.2.1,q4.heap ay ⟨zG _,wA⟩⟩
       rintro e' a' Z hz;cases e' with
       |normal=>exact m _ _ hz
       |ret=>exact m _ _ hz
       |exit id=>exact m _ _ hz
       |goto t=>exact m _ _ hz
       |panic c=>exact hz.elim
       |outgrown=>exact hz.elim
      |ret=>exact he.elim
      |exit id=>exact he.elim
      |goto t=>exact he.elim
      |panic c=>exact he.elim
      |outgrown=>exact he.elim)
    exact this)
   ⟨⟨hI _ _ _ _ (hI _ _ _ _ h0 aa.mt) (ap.mono fun b _ h=>wA),u _ (zG _),av⟩,u _ wA,aE⟩
  have az:Calls P gf (#[.func (.yield (w.heap.size+1)) #[] #[]]++lb) W2 (rangePost Fence.wide 0 P (w.heap.size+1) Q {a with defers:= [{target:=.collected w.heap.size,args:= #[]}]++a.defers}):=by
   refine z.mono ?_;rintro e W3 ⟨⟨v,rfl⟩,aW,γ',hinv,al,hJ |⟨k,hk,c,hx,hf,hh⟩⟩
   ·obtain⟨⟨hi,aB,hD⟩,hf,hh⟩:=hJ;refine⟨none,_,run_endLoop (P:=P) hh wC,hdone _ γ' _ ⟨zG _,zG _⟩ aB ?_ (by simp;omega) (hI _ _ _ _ hi (Keep.putObj _ _ _ wA)) (d.invk hinv (Keep.putObj _ _ _ (by simpa using hf))) (q _ _ al (Keep.putObj _ _ _ wA))⟩;rw [World.putObj_heap_other wA];exact hD
   ·refine⟨some c,_,run_endLoop (P:=P) hh wC,hstop _ c k γ' _ ⟨zG _,zG _⟩ hx.2.1 ?_ (by simp;omega) hk (aj _ _ _ _ _ hx.1 (Keep.putObj _ _ _ wA)) (d.invk hinv (Keep.putObj _ _ _ (by simpa using hf))) (q _ _ al (Keep.putObj _ _ _ wA))⟩;rw [World.putObj_heap_other wA];exact hx.2.2
  exact zU.2 az
end Go.Ink
namespace Go.Proofs.R4
open Go.RowKit Go.Ink
attribute [local go_sem] Oper.semAt_some
def ic (x:Int):List Value:= [.int .i64 x]
theorem qne (l:List Int):l.flatMap ic=l.map (.int .i64):=by
 induction l with
 |nil=>rfl
 |cons a l ih=>simp [ic,ih]
theorem qnf:qb2 prog 125 3 1 8:=qcl (z:=.int .i64 0) wB wB rfl wD wD
theorem qd8 {n:Nat}{w w':World}{v:Value}{ss:List Int}(h:qay n w v ss){m:Nat}(hK:Keep (fun k=>k<m) w w')(c:n<=m):qay n w' v ss:=
 h.mono fun _ _ _ b h=>hK.cell h (zk b c)
theorem qqc {n b:Nat}{w:World}{v:Value}{ss:List Int}(h:qay n w v ss)(c:n<=b):qay b w v ss:=
 SliceIn.wider h c fun _ _ _ _ h=>h
def qdi (n:Nat)(t:List Int):Bool:=decide (t.length=n)&&t.all fun x=>decide (0<=x)
def qe7 (ts:List (List Int))(t:List Int):Option Nat:=(List.range ts.length).find? fun i=>decide (ts[i]?=some t)
def qld:Option Nat->Value
 |none=>.tuple #[.int .i64 0,.bool false]
 |some i=>.tuple #[.int .i64 i,.bool true]
def qle (t cols key:List Int):Bool:=(List.range cols.length).all fun j=>decide (t[(cols.getD j 0).toNat]?=key[j]?)
def qid (n:Nat)(cols:List Int)(i:Nat):Bool:=decide (0<=cols.getD i 0)&&decide (cols.getD i 0<n)&&(i==0 ||decide (cols.getD (i-1) 0<cols.getD i 0))
def qdz (n:Nat)(cols:List Int):Bool:=(List.range cols.length).all (qid n cols)
theorem qoc {n:Nat}{b:List Int}(h:qdz n b=true): ∀c,c∈b->0<=c/\c<n:=fun c d=>by
 obtain⟨i,hi⟩:=zy.1 d;have:=yM.1 h i (yi.2 (zA.1 hi).1);simp only [qid,List.getD,hi,Option.getD_some,zV,zT]at this;exact this.1
def qzt (ts:List (List Int))(cols key:List Int)(lo hi:Int)(i:Nat):Bool:=decide (lo<=(i:Int))&&decide ((i:Int)<hi)&&qle (ts.getD i []) cols key
def qel (n:Nat)(ts:List (List Int))(cols key:List Int)(lo hi:Int):List Nat:=
 if (qdz n cols&&decide (key.length=cols.length))=true then (List.range ts.length).filter (qzt ts cols key lo hi) else []
theorem qzu (n:Nat)(ts:List (List Int))(b key:List Int)(lo hi:Int):(qel n ts b key lo hi).length<=ts.length:=by
 unfold qel;split
 ·refine zW (yd _ _) ?_;simp
 ·simp
def qie (n:Nat)(ts:List (List Int))(t:List Int):Int×Bool×Int:=if qdi n t=true then (match qe7 ts t with |some i=>((i:Int),false,0) |none=>((ts.length:Int),true,0)) else (0,false,2)
def qk6 (n:Nat)(ts:List (List Int))(t:List Int):List (List Int):=if (qie n ts t).2.1=true then ts++ [t] else ts
def qfm (n:Nat)(vD:Value)(c P K:Nat):List Value:= [.int .i64 (n:Int),vD,.int .i64 (c:Int),.map (some P),.map (some K)]
theorem q5q (w:World):Calls prog 134 #[.pointer none] w fun e w'=>e=.returned (.bool false)/\w'=w:=by
 go_enter Tryz.func134,Tryz.ntmps134
 go_wp2;go_ret;exact⟨rfl,rfl⟩
theorem qlz {w:World}{B n c P K:Nat}{vD:Value}(h:w.heap[B]?=some (.cells (qfm n vD c P K).toArray 209 (0,0))):Calls prog 134 #[.pointer (some ⟨B,0,none⟩)] w fun e w'=>e=.returned (.bool true)/\w'=w:=by
 have b:=qb h 3 _ rfl;have g:=qe h;simp only [zD]at b;clear h;have d: ∀w',(binOp .neq 206 (.map (some P)) (.map none)).run prog w'=.ok (.bool true) w':=fun w'=>run_neq_map_nil w' _ _ _ (some P) Tryz.underlying206
 go_enter Tryz.func134,Tryz.ntmps134
 go_wp2;go_ret;exact⟨rfl,rfl⟩
theorem qzv (w:World):Calls prog 98 #[.pointer none] w fun e w'=>e=.returned (.int .i64 0)/\w'=w:=by
 go_enter Tryz.func98,Tryz.ntmps98
 go_wp2_with fail;refine(q5q w).mono ?_;rintro e b ⟨rfl,rfl⟩;go_wp2_with fail;go_ret;exact⟨rfl,rfl⟩
theorem qzw {w:World}{B n c P K:Nat}{vD:Value}(h:w.heap[B]?=some (.cells (qfm n vD c P K).toArray 209 (0,0))):Calls prog 98 #[.pointer (some ⟨B,0,none⟩)] w fun e w'=>e=.returned (.int .i64 c)/\w'=w:=by
 have d:=qb h 2 _ rfl;have g:=qe h;simp only [zD]at d;refine hd1 ?_ h;clear h;intro b
 go_enter Tryz.func98,Tryz.ntmps98
 go_wp2_with fail;refine(qlz b.o).mono ?_;rintro e l ⟨rfl,rfl⟩;go_wp2_with fail;go_ret;exact⟨rfl,rfl⟩
theorem qsa {w:World}{B n c P K:Nat}{vD:Value}(h:w.heap[B]?=some (.cells (qfm n vD c P K).toArray 209 (0,0)))(m:Nat)(v:Value)(t:List Int)(hs:qay m w v t)(hm:m<=w.heap.size):
  Calls prog 135 #[.pointer (some ⟨B,0,none⟩),v] w fun e w'=>e=.returned (.bool (qdi n t))/\wE w w':=by
 obtain⟨a,cc,rfl,hl,hc,he⟩:=id hs;have hB:=qe h;refine hd3 ?_ h hs he;clear h hs he;intro Xh ak aa
 go_enter Tryz.func135,Tryz.ntmps135
 go_wp2_with fail
 go_loopw [9] (fun i wr=> ∃k:Nat,k<=t.length/\i=.int .i64 k/\wE w wr/\(t.take k).all (fun x=>decide (0<=x))=true) (fun i _=>t.length-(intOf i).toNat)
 case atStart=>exact⟨0,wA,rfl,Keep.refl _ _,rfl⟩
 case round=>
  obtain⟨k,hk,rfl,hK,d⟩:=hrel;have ai:=hK.size;by_cases ad:k<t.length
  ·obtain⟨x,Y⟩: ∃x,t[k]?=some x:=⟨_,zB ad⟩;obtain⟨b,o,rfl,hb,z⟩:=aa.o k x Y;have z:=hK.cell z trivial;simp only [yB]at z;have an:b<wr.heap.size:=by omega
   have ag:(k:Int)<t.length:=wA
   have ao:(0:Int)<=k:=wA
   by_cases ah:x<0
   ·have U:qdi n t=false:=by
     rw [Bool.eq_false_iff];intro h;simp only [qdi,zV,yM,zT]at h;have:=h.2 x (zH Y);omega
    clear d Y;refine hd2 ?_ U hK;clear U hK;intro R p;go_wp2_with fail;go_ret;exact⟨by rw [R.o];try rfl,p.o⟩
   ·have s:(t.take (k+1)).all (fun x=>decide (0<=x))=true:=by
     rw [zh,Y,all_append,d];simp;omega
    clear d Y;refine hd2 ?_ s hK;clear s hK;intro u p;go_wp2_with fail;go_roundw
    case rel=>exact⟨k+1,wA,by go_num,p.o,u.o⟩
    case measure=>simp [intOf];omega
  ·obtain rfl:k=t.length:=by omega
   rw [zi]at d;have y:=hK.heap Xh.o trivial;have c0:=qb y 0 _ rfl;have am:B<wr.heap.size:=wA
   simp only [zD]at c0;clear y;by_cases l:t.length=n
   ·have g:qdi n t=true:=by simp only [qdi,d,l];simp
    have ab:((t.length:Int)==n)=true:=by simp [l]
    clear d l;refine hd2 ?_ g hK;clear g hK;intro q p;go_wp2_with fail;go_ret;exact⟨by rw [q.o];try rfl,p.o⟩
   ·have g:qdi n t=false:=by simp [qdi,l]
    have ab:((t.length:Int)==n)=false:=by rw [y7];omega
    clear d l;refine hd2 ?_ g hK;clear g hK;intro q p;go_wp2_with fail;go_ret;exact⟨by rw [q.o];try rfl,p.o⟩
def qa6 (t:List Int):List Int:=t++List.replicate (16-t.length) 0
def qhn (l:List Int):Value:=.agg (l.map (.int .i64)).toArray
theorem qhy {t:List Int}(h:t.length<=16):(qa6 t).length=16:=by simp [qa6];omega
theorem qrk {s t:List Int}(h:qa6 s=qa6 t)(b:s.length=t.length):s=t:=by
 unfold qa6 at h;exact(append_inj h b).1
theorem qjz: ∀a b:List Int,qhn a=qhn b->a=b:=by
 intro a b h;unfold qhn at h;injection h with h
 have c:a.map (Value.int .i64)=b.map (.int .i64):=by simpa using yN Array.toList h
 clear h
 induction a generalizing b with
 |nil=>cases b with
  |nil=>rfl
  |cons y b=>simp at c
 |cons x a ih=>cases b with
  |nil=>simp at c
  |cons y b=>
   simp only [yX,List.cons.injEq,Value.int.injEq,true_and]at c;rw [c.1,ih b c.2]
def qg9 (b:Nat):List Value->Nat->World->World
 | [],_,w=>w
 |v::vs,i,w=>qg9 b vs (i+1) (w.setCell ⟨b,i,none⟩ v)
theorem qqd {b t:Nat}{d:Nat×Nat}: ∀(vs:List Value) (i:Nat) (w:World) (cs:Array Value),w.heap[b]?=some (.cells cs t d)->i+vs.length=cs.size->(qg9 b vs i w).heap[b]?=some (.cells (cs.toList.take i++vs).toArray t d)
 | [],i,w,cs,h,hl=>by
  have:i=cs.size:=by simpa using hl
  subst this;rw [qg9,h,yP];rw [yx wC]
 |v::vs,i,w,cs,h,hl=>by
  have c:i+1+vs.length=cs.size:=by simp at hl;omega
  have:=qqd vs (i+1) (w.setCell ⟨b,i,none⟩ v) _ (qaj i v h) (by simpa using c);rw [qg9,this];have hi:i<cs.toList.length:=by simp;omega
  simp only [Array.toList_setIfInBounds,zh,take_set_of_le (zG i),getElem?_set_self hi,Option.toList_some,yr,singleton_append]
theorem qha {b t:Nat}{e:Nat×Nat}{w:World}{d:Array Value}(c:List Value)(h:w.heap[b]?=some (.cells d t e))(g:c.length=d.size):(qg9 b c 0 w).heap[b]?=some (.cells c.toArray t e):=by
 have:=qqd c 0 w d h wA
 simpa using this
theorem qe8 (b:Nat): ∀(vs:List Value) (i:Nat) (w:World),Keep (fun j=>j≠b) w (qg9 b vs i w)
 | [],_,_=>Keep.refl _ _
 |v::vs,i,w=>(kSc).trans (qe8 b vs (i+1) _)
theorem qng (n:Nat)(v:Value)(t:List Int)(w:World)(hs:qay n w v t)(hn:n<=w.heap.size)(hl:t.length<=16):
  Calls prog 136 #[v] w fun e w'=>e=.returned (qhn (qa6 t))/\Keep (fun k=>k<w.heap.size) w w':=by
 obtain⟨a,c,rfl,bw,bu,aw⟩:=id hs;obtain⟨W0,aa⟩:=ex ((w.alloc (.cells #[.int .i64 0,.int .i64 0,.int .i64 0,.int .i64 0,.int .i64 0,.int .i64 0,.int .i64 0,.int .i64 0,.int .i64 0,.int .i64 0,.int .i64 0,.int .i64 0,.int .i64 0,.int .i64 0,.int .i64 0,.int .i64 0] 214)).alloc (.cells #[.int .i64 0,.int .i64 0,.int .i64 0,.int .i64 0,.int .i64 0,.int .i64 0,.int .i64 0,.int .i64 0,.int .i64 0,.int .i64 0,.int .i64 0,.int .i64 0,.int .i64 0,.int .i64 0,.int .i64 0,.int .i64 0] 214));have ar:wE w W0:=by rw [←aa];exact kAl.trans kAl
 have s0:W0.heap.size=w.heap.size+1+1:=by rw [←aa];simp
 have n1:W0.heap[w.heap.size]?=some (.cells #[.int .i64 0,.int .i64 0,.int .i64 0,.int .i64 0,.int .i64 0,.int .i64 0,.int .i64 0,.int .i64 0,.int .i64 0,.int .i64 0,.int .i64 0,.int .i64 0,.int .i64 0,.int .i64 0,.int .i64 0,.int .i64 0] 214 (0,0)):=by rw [←aa];exact qf0 (qh _ _) _
 have n2:W0.heap[w.heap.size+1]?=some (.cells #[.int .i64 0,.int .i64 0,.int .i64 0,.int .i64 0,.int .i64 0,.int .i64 0,.int .i64 0,.int .i64 0,.int .i64 0,.int .i64 0,.int .i64 0,.int .i64 0,.int .i64 0,.int .i64 0,.int .i64 0,.int .i64 0] 214 (0,0)):=by rw [←aa];simp only [qar,zO];simp
 have ay:=qd8 hs (m:=n) (ar.mt) (zG _);have ao:=qgj (sz:=1) ic (fun _=>rfl) wA (E:=qf6) (fun b o x h j u hj=>by
  have aQ:j=0:=by have:=(zA.1 hj).1;simp [ic] at this;exact this
  subst aQ;simp [ic]at hj;subst hj;exact h) ay rfl
 have U:(prog.info? 3).map (·.size)=some 1:=wB
 have ap: ∃r W1,(Builtin.copy_ #[125,125] 3 #[.slice (some ⟨w.heap.size+1,0,none⟩) 16 16,.slice a t.length c]).run prog W0=.ok r W1/\W1.heap[w.heap.size+1]?=some (.cells ((qa6 t).map (.int .i64)).toArray 214 (0,0))/\Keep (fun b=>b≠w.heap.size+1) W0 W1/\W1.heap.size=W0.heap.size:=by
  cases a with
  |none=>
   have ht:t= []:=yo (ao.2 rfl);subst ht;exact⟨_,_,run_copy_none W0 _ _ _ _ _ _ _ _ _ _ Tryz.underlying125 U wC,n2,Keep.refl _ _,rfl⟩
  |some ad=>
   have av:=ao.1 ad rfl;rw [qne]at av;have hr:=run_copy_row (P:=prog) W0 125 125 3 3 (w.heap.size+1) 0 16 16 ad t.length c _ _ (t.map (.int .i64)) Tryz.underlying125 U n2 (by rw [zL];exact(xQ hl).symm) av (by simp;omega) (by simp [Value.oneCell']);refine⟨_,_,hr,?_,?_,?_⟩
   ·rw [setRow_heap W0 _ _ _ _ _ n2];have hz:([.int .i64 0,.int .i64 0,.int .i64 0,.int .i64 0,.int .i64 0,.int .i64 0,.int .i64 0,.int .i64 0,.int .i64 0,.int .i64 0,.int .i64 0,.int .i64 0,.int .i64 0,.int .i64 0,.int .i64 0,.int .i64 0]:List Value)=List.replicate 16 (.int .i64 0):=rfl;simp only [hz,take_zero,nil_append,zD,zL,drop_replicate,qa6,zn,map_replicate]
   ·exact⟨rfl,rfl,rfl,wC,fun k _ hk=>setRow_other _ _ _ _ hk⟩
   ·simp
 obtain⟨rv,W1,bz,an,aq,aR⟩:=ap;obtain⟨k0,k1,k2,k3,k4,k5,k6,k7,k8,k9,l,p,q,s,y,z,Y⟩: ∃k0 k1 k2 k3 k4 k5 k6 k7 k8 k9 l p q s y z,qa6 t= [k0,k1,k2,k3,k4,k5,k6,k7,k8,k9,l,p,q,s,y,z]:=by
  have ax:=qhy hl
  match h:qa6 t,ax with
  | [k0,k1,k2,k3,k4,k5,k6,k7,k8,k9,l,p,q,s,y,z],_=>exact⟨k0,k1,k2,k3,k4,k5,k6,k7,k8,k9,l,p,q,s,y,z,rfl⟩
 rw [Y]at an;rw [Y];have g:W1.heap[w.heap.size+1]?=some (.cells #[.int .i64 k0,.int .i64 k1,.int .i64 k2,.int .i64 k3,.int .i64 k4,.int .i64 k5,.int .i64 k6,.int .i64 k7,.int .i64 k8,.int .i64 k9,.int .i64 l,.int .i64 p,.int .i64 q,.int .i64 s,.int .i64 y,.int .i64 z] 214 (0,0)):=an;have d:=aq.heap n1 wA;have c0:=qb g 0 _ rfl;have z0:=qb d 0 _ rfl;have f0:=qg d 0;have c1:=qb g 1 _ rfl;have z1:=qb d 1 _ rfl;have f1:=qg d 1;have c2:=qb g 2 _ rfl;have z2:=qb d 2 _ rfl;have f2:=qg d 2;have c3:=qb g 3 _ rfl;have z3:=qb d 3 _ rfl;have f3:=qg d 3;have c4:=qb g 4 _ rfl;have z4:=qb d 4 _ rfl;have f4:=qg d 4;have c5:=qb g 5 _ rfl;have z5:=qb d 5 _ rfl;have f5:=qg d 5;have c6:=qb g 6 _ rfl;have z6:=qb d 6 _ rfl;have f6:=qg d 6;have c7:=qb g 7 _ rfl;have z7:=qb d 7 _ rfl;have f7:=qg d 7;have c8:=qb g 8 _ rfl;have z8:=qb d 8 _ rfl;have f8:=qg d 8;have c9:=qb g 9 _ rfl;have z9:=qb d 9 _ rfl;have f9:=qg d 9;have aJ:=qb g 10 _ rfl;have aS:=qb d 10 _ rfl;have bo:=qg d 10;have aK:=qb g 11 _ rfl;have aT:=qb d 11 _ rfl;have bp:=qg d 11;have aL:=qb g 12 _ rfl;have aU:=qb d 12 _ rfl;have bq:=qg d 12;have aM:=qb g 13 _ rfl;have aV:=qb d 13 _ rfl;have br:=qg d 13;have aN:=qb g 14 _ rfl;have aW:=qb d 14 _ rfl;have bs:=qg d 14;have aO:=qb g 15 _ rfl;have aX:=qb d 15 _ rfl;have bt:=qg d 15;simp only [zD]at c0 z0 c1 z1 c2 z2 c3 z3 c4 z4 c5 z5 c6 z6 c7 z7 c8 z8 c9 z9 aJ aS aK aT aL aU aM aV aN aW aO aX;have l1:w.heap.size<W1.heap.size:=wA
 have l2:w.heap.size+1<W1.heap.size:=wA
 have kw:Keep (fun k=>k<w.heap.size) w W1:=(ar.mt).trans (aq.mono fun b _ h=>wA);clear ao ay U n1 n2 an ar aq Y aR;refine hd5 ?_ hs aw d g kw;clear hs aw d g kw;intro bc aY au aG aI
 go_enter Tryz.func136,Tryz.ntmps136
 go_wp2_with fail;refine qjw (fun W=>W.heap[w.heap.size]?=some (.cells #[.int .i64 k0,.int .i64 k1,.int .i64 k2,.int .i64 k3,.int .i64 k4,.int .i64 k5,.int .i64 k6,.int .i64 k7,.int .i64 k8,.int .i64 k9,.int .i64 l,.int .i64 p,.int .i64 q,.int .i64 s,.int .i64 y,.int .i64 z] 214 (0,0))/\Keep (fun k=>k<w.heap.size) w W) (w:=qg9 w.heap.size [.int .i64 k0,.int .i64 k1,.int .i64 k2,.int .i64 k3,.int .i64 k4,.int .i64 k5,.int .i64 k6,.int .i64 k7,.int .i64 k8,.int .i64 k9,.int .i64 l,.int .i64 p,.int .i64 q,.int .i64 s,.int .i64 y,.int .i64 z] 0 W1) ⟨qha [.int .i64 k0,.int .i64 k1,.int .i64 k2,.int .i64 k3,.int .i64 k4,.int .i64 k5,.int .i64 k6,.int .i64 k7,.int .i64 k8,.int .i64 k9,.int .i64 l,.int .i64 p,.int .i64 q,.int .i64 s,.int .i64 y,.int .i64 z] au.o rfl,aI.o.trans ((qe8 _ _ _ _).mono (fun b _ h=>wA))⟩ ?_;rintro W2 ⟨R,kq⟩;have r0:=qb R 0 _ rfl;have r1:=qb R 1 _ rfl;have r2:=qb R 2 _ rfl;have r3:=qb R 3 _ rfl;have r4:=qb R 4 _ rfl;have r5:=qb R 5 _ rfl;have r6:=qb R 6 _ rfl;have r7:=qb R 7 _ rfl;have r8:=qb R 8 _ rfl;have r9:=qb R 9 _ rfl;have az:=qb R 10 _ rfl;have aA:=qb R 11 _ rfl;have aB:=qb R 12 _ rfl;have aC:=qb R 13 _ rfl;have aD:=qb R 14 _ rfl;have aE:=qb R 15 _ rfl;simp only [zD]at r0 r1 r2 r3 r4 r5 r6 r7 r8 r9 az aA aB aC aD aE;clear R;refine hd1 ?_ kq;clear kq;intro aH;refine yA (v:=.agg #[.int .i64 k0,.int .i64 k1,.int .i64 k2,.int .i64 k3,.int .i64 k4,.int .i64 k5,.int .i64 k6,.int .i64 k7,.int .i64 k8,.int .i64 k9,.int .i64 l,.int .i64 p,.int .i64 q,.int .i64 s,.int .i64 y,.int .i64 z]) (by simp [results,Tryz.results136,go_sem,r0,r1,r2,r3,r4,r5,r6,r7,r8,r9,az,aA,aB,aC,aD,aE]) rfl ⟨rfl,aH.o⟩
def qet (t l:List Int):List Int:=l.map fun c=>t.getD c.toNat 0
def qch (t l:List Int):List Int:=qa6 (qet t l)
theorem qj0 (t l:List Int):(qet t l).length=l.length:=by simp [qet]
theorem q7t {t:List Int}(x:Int)(h:t.length<16):((qa6 t).map (Value.int .i64)).toArray.setIfInBounds t.length (.int .i64 x)=((qa6 (t++ [x])).map (.int .i64)).toArray:=by
 apply Array.ext';simp only [Array.toList_setIfInBounds,←map_set]
 congr 1
 unfold qa6;have:16-t.length=(16-(t++ [x]).length)+1:=by simp;omega
 rw [this,replicate_succ,set_append_right _ _ (zG _),xY,set_cons_zero,yr,singleton_append]
theorem q7u (w:World)(v vl:Value)(t l:List Int)(hs:qay w.heap.size w v t)(hl:qay w.heap.size w vl l)(aa:l.length<=16)(aJ: ∀c∈l,0<=c/\c<t.length):
  Calls prog 174 #[v,vl] w fun e w'=>e=.returned (qhn (qch t l))/\Keep (fun k=>k<w.heap.size) w w':=by
 obtain⟨a,c,rfl,b6,b3,aI⟩:=id hs;obtain⟨a2,c2,rfl,bm,bj,av⟩:=id hl;obtain⟨W0,aq⟩:=ex ((w.alloc (.cells #[.int .i64 0,.int .i64 0,.int .i64 0,.int .i64 0,.int .i64 0,.int .i64 0,.int .i64 0,.int .i64 0,.int .i64 0,.int .i64 0,.int .i64 0,.int .i64 0,.int .i64 0,.int .i64 0,.int .i64 0,.int .i64 0] 214)).alloc (.cells #[.int .i64 0,.int .i64 0,.int .i64 0,.int .i64 0,.int .i64 0,.int .i64 0,.int .i64 0,.int .i64 0,.int .i64 0,.int .i64 0,.int .i64 0,.int .i64 0,.int .i64 0,.int .i64 0,.int .i64 0,.int .i64 0] 214));have aM:wE w W0:=by rw [←aq];exact kAl.trans kAl
 have s0:W0.heap.size=w.heap.size+1+1:=by rw [←aq];simp
 have n1:W0.heap[w.heap.size]?=some (.cells #[.int .i64 0,.int .i64 0,.int .i64 0,.int .i64 0,.int .i64 0,.int .i64 0,.int .i64 0,.int .i64 0,.int .i64 0,.int .i64 0,.int .i64 0,.int .i64 0,.int .i64 0,.int .i64 0,.int .i64 0,.int .i64 0] 214 (0,0)):=by rw [←aq];exact qf0 (qh _ _) _
 have n2:W0.heap[w.heap.size+1]?=some (.cells ((qa6 (qet t (l.take 0))).map (.int .i64)).toArray 214 (0,0)):=by rw [←aq];simp only [qar,zO];simp;rfl
 refine hd8 ?_ hs hl aI av aJ n1 n2 aM;clear hs hl aI av aJ n1 n2 aM;intro bG bF aF ax aG aV aW aH
 go_enter Tryz.func174,Tryz.ntmps174
 go_wp2_with fail
 go_loopw [10] (fun i wr=> ∃k:Nat,k<=l.length/\i=.int .i64 k/\Keep (fun j=>j≠w.heap.size+1) W0 wr/\wr.heap[w.heap.size+1]?=some (.cells ((qa6 (qet t (l.take k))).map (.int .i64)).toArray 214 (0,0))) (fun i _=>l.length-(intOf i).toNat)
 case atStart=>exact⟨0,wA,rfl,Keep.refl _ _,aW.o⟩
 case round=>
  obtain⟨k,hk,rfl,hK,m⟩:=hrel;have bn:=hK.size;have Y:Keep (fun j=>j<w.heap.size) w wr:=(aH.o.mt).trans (hK.mono fun b _ h=>wA);by_cases aK:k<l.length
  ·obtain⟨x,hx⟩: ∃x,l[k]?=some x:=⟨_,zB aK⟩;have af:=aG.o x (zH hx);obtain⟨y,hy⟩: ∃y,t[x.toNat]?=some y:=⟨_,zB wA⟩;obtain⟨b2,o2,rfl,a4,aB⟩:=ax.o k x hx;obtain⟨b,o,rfl,hb,aC⟩:=aF.o x.toNat y hy;have aB:=Y.cell aB a4;have aC:=Y.cell aC hb;simp only [yB]at aB aC;have g:b<wr.heap.size:=by omega
   have bi:b2<wr.heap.size:=wA
   have bl:(k:Int)<l.length:=wA
   have b5:(0:Int)<=k:=wA
   have b8:0<=x:=af.1;have b9:x<t.length:=af.2;have bk:(k:Int)<16:=wA
   have a8:w.heap.size+1<wr.heap.size:=wA
   have aL:(qet t (l.take k)).length=k:=by rw [qj0,yC];omega
   have ae:=qaj k (.int .i64 y) m;have ab:qet t (l.take (k+1))=qet t (l.take k)++ [y]:=by
    unfold qet;rw [zh,hx];simp [zJ,hy]
   have aA:=q7t y (t:=qet t (l.take k)) wA;rw [aL]at aA;rw [aA,←ab]at ae;have b4:wr.frozen? ⟨w.heap.size+1,k,none⟩=false:=by simp [World.frozen?,m]
   obtain⟨u0,b7⟩: ∃u0,wr.cell? ⟨w.heap.size+1,k,none⟩=some u0:=by
    have a6:k<((qa6 (qet t (l.take k))).map (Value.int .i64)).length:=by rw [zL,qhy wA];omega
    have:=qb m k _ (by exact zB a6);rw [zD]at this;exact⟨_,this⟩
   have ca:(x.toNat:Int)=x:=wA
   clear aA ab aL m hx hy af;refine hd3 ?_ ae hK Y;clear ae hK Y;intro ay aE ar;go_wp2_with fail;go_roundw
   case rel=>exact⟨k+1,wA,by go_num,aE.o.trans (kSc),ay.o⟩
   case measure=>simp [intOf];omega
  ·obtain rfl:k=l.length:=by omega
   rw [zi]at m;have az:(qet t l).length<=16:=by rw [qj0];exact aa
   obtain⟨k0,k1,k2,k3,k4,k5,k6,k7,k8,k9,p,q,s,u,z,R,ad⟩: ∃k0 k1 k2 k3 k4 k5 k6 k7 k8 k9 p q s u z R,qa6 (qet t l)= [k0,k1,k2,k3,k4,k5,k6,k7,k8,k9,p,q,s,u,z,R]:=by
    have aa:=qhy az
    match h:qa6 (qet t l),aa with
    | [k0,k1,k2,k3,k4,k5,k6,k7,k8,k9,p,q,s,u,z,R],_=>exact⟨k0,k1,k2,k3,k4,k5,k6,k7,k8,k9,p,q,s,u,z,R,rfl⟩
   have au:qhn (qch t l)=.agg #[.int .i64 k0,.int .i64 k1,.int .i64 k2,.int .i64 k3,.int .i64 k4,.int .i64 k5,.int .i64 k6,.int .i64 k7,.int .i64 k8,.int .i64 k9,.int .i64 p,.int .i64 q,.int .i64 s,.int .i64 u,.int .i64 z,.int .i64 R]:=by unfold qch;rw [ad];rfl
   rw [ad]at m;have g:wr.heap[w.heap.size+1]?=some (.cells #[.int .i64 k0,.int .i64 k1,.int .i64 k2,.int .i64 k3,.int .i64 k4,.int .i64 k5,.int .i64 k6,.int .i64 k7,.int .i64 k8,.int .i64 k9,.int .i64 p,.int .i64 q,.int .i64 s,.int .i64 u,.int .i64 z,.int .i64 R] 214 (0,0)):=m;have d:=hK.heap aV.o wA;have c0:=qb g 0 _ rfl;have z0:=qb d 0 _ rfl;have f0:=qg d 0;have c1:=qb g 1 _ rfl;have z1:=qb d 1 _ rfl;have f1:=qg d 1;have c2:=qb g 2 _ rfl;have z2:=qb d 2 _ rfl;have f2:=qg d 2;have c3:=qb g 3 _ rfl;have z3:=qb d 3 _ rfl;have f3:=qg d 3;have c4:=qb g 4 _ rfl;have z4:=qb d 4 _ rfl;have f4:=qg d 4;have c5:=qb g 5 _ rfl;have z5:=qb d 5 _ rfl;have f5:=qg d 5;have c6:=qb g 6 _ rfl;have z6:=qb d 6 _ rfl;have f6:=qg d 6;have c7:=qb g 7 _ rfl;have z7:=qb d 7 _ rfl;have f7:=qg d 7;have c8:=qb g 8 _ rfl;have z8:=qb d 8 _ rfl;have f8:=qg d 8;have c9:=qb g 9 _ rfl;have z9:=qb d 9 _ rfl;have f9:=qg d 9;have aX:=qb g 10 _ rfl;have ba:=qb d 10 _ rfl;have bR:=qg d 10;have aY:=qb g 11 _ rfl;have bb:=qb d 11 _ rfl;have bS:=qg d 11;have aZ:=qb g 12 _ rfl;have bc:=qb d 12 _ rfl;have bU:=qg d 12;have a0:=qb g 13 _ rfl;have bd:=qb d 13 _ rfl;have bV:=qg d 13;have a1:=qb g 14 _ rfl;have bf:=qb d 14 _ rfl;have bW:=qg d 14;have a3:=qb g 15 _ rfl;have bg:=qb d 15 _ rfl;have b0:=qg d 15;simp only [zD]at c0 z0 c1 z1 c2 z2 c3 z3 c4 z4 c5 z5 c6 z6 c7 z7 c8 z8 c9 z9 aX ba aY bb aZ bc a0 bd a1 bf a3 bg;have l1:w.heap.size<wr.heap.size:=wA
   have l2:w.heap.size+1<wr.heap.size:=wA
   clear m ad g;refine hd4 ?_ d Y au hK;clear d Y au hK;intro aD ar aw aE;go_wp2_with fail;refine qjw (fun W=>W.heap[w.heap.size]?=some (.cells #[.int .i64 k0,.int .i64 k1,.int .i64 k2,.int .i64 k3,.int .i64 k4,.int .i64 k5,.int .i64 k6,.int .i64 k7,.int .i64 k8,.int .i64 k9,.int .i64 p,.int .i64 q,.int .i64 s,.int .i64 u,.int .i64 z,.int .i64 R] 214 (0,0))/\Keep (fun k=>k<w.heap.size) w W) (w:=qg9 w.heap.size [.int .i64 k0,.int .i64 k1,.int .i64 k2,.int .i64 k3,.int .i64 k4,.int .i64 k5,.int .i64 k6,.int .i64 k7,.int .i64 k8,.int .i64 k9,.int .i64 p,.int .i64 q,.int .i64 s,.int .i64 u,.int .i64 z,.int .i64 R] 0 wr) ⟨qha [.int .i64 k0,.int .i64 k1,.int .i64 k2,.int .i64 k3,.int .i64 k4,.int .i64 k5,.int .i64 k6,.int .i64 k7,.int .i64 k8,.int .i64 k9,.int .i64 p,.int .i64 q,.int .i64 s,.int .i64 u,.int .i64 z,.int .i64 R] aD.o rfl,ar.o.trans ((qe8 _ _ _ _).mono (fun b _ h=>wA))⟩ ?_;rintro W2 ⟨U,kq⟩;have r0:=qb U 0 _ rfl;have r1:=qb U 1 _ rfl;have r2:=qb U 2 _ rfl;have r3:=qb U 3 _ rfl;have r4:=qb U 4 _ rfl;have r5:=qb U 5 _ rfl;have r6:=qb U 6 _ rfl;have r7:=qb U 7 _ rfl;have r8:=qb U 8 _ rfl;have r9:=qb U 9 _ rfl;have aN:=qb U 10 _ rfl;have aO:=qb U 11 _ rfl;have aP:=qb U 12 _ rfl;have aQ:=qb U 13 _ rfl;have aR:=qb U 14 _ rfl;have aS:=qb U 15 _ rfl;simp only [zD]at r0 r1 r2 r3 r4 r5 r6 r7 r8 r9 aN aO aP aQ aR aS;clear U;refine hd1 ?_ kq;clear kq;intro aU;refine yA (v:=.agg #[.int .i64 k0,.int .i64 k1,.int .i64 k2,.int .i64 k3,.int .i64 k4,.int .i64 k5,.int .i64 k6,.int .i64 k7,.int .i64 k8,.int .i64 k9,.int .i64 p,.int .i64 q,.int .i64 s,.int .i64 u,.int .i64 z,.int .i64 R]) (by simp [results,Tryz.results174,go_sem,r0,r1,r2,r3,r4,r5,r6,r7,r8,r9,aN,aO,aP,aQ,aR,aS]) rfl ⟨by rw [aw.o],aU.o⟩
end Go.Proofs.R4
