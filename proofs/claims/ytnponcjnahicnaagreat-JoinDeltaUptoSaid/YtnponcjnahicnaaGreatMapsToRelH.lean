/- Parts of the proof. -/
import Derived.DeepKeys4
import Derived.Maps.RangeWalk
import Derived.WideKeyEntry
import Derived.Test.YtnponcjnahicnaaGreatProg
import Derived.Test.YtnponcjnahicnaaGreatOwnToRowC
import Derived.Laws.Cover3
set_option linter.unusedSimpArgs false
set_option linter.unusedVariables false
set_option maxRecDepth 100000
open Go.Proofs.Tryz(prog)
open List(all_append find?_cons getElem?_cons_succ map_map)
namespace Go.Ink
open Go.RowKit Go.WideMaps
section
variable {κ ν : Type}
def qdj [DecidableEq κ](m:List (κ×ν))(k:κ):Option ν:=(m.find? fun p=>decide (p.1=k)).map (·.2)
def setK [DecidableEq κ](m:List (κ×ν))(k:κ)(v:ν):List (κ×ν):=if k∈m.map (·.1) then m.map fun p=>if p.1=k then (k,v) else p else m++ [(k,v)]
theorem ql5 [DecidableEq κ]{m:List (κ×ν)}{k:κ}(h:k∉m.map (·.1)):qdj m k=none:=by
 unfold qdj;rw [yp.2]
 ·rfl
 ·intro p b;simp only [zT];exact fun e=>h (e▸yL.2 ⟨p,b,rfl⟩)
theorem qpm [DecidableEq κ]{m:List (κ×ν)}(b:(m.map (·.1)).Nodup){j:Nat}{p:κ×ν}(h:m[j]?=some p):qdj m p.1=some p.2:=by
 induction m generalizing j with
 |nil=>simp at h
 |cons q m ih=>
  rw [yZ,xU]at b;cases j with
  |zero=>
   simp at h;subst h;simp [qdj]
  |succ j=>
   simp only [getElem?_cons_succ]at h;have c:q.1≠p.1:=fun e=>b.1 (e▸yL.2 ⟨p,zH h,rfl⟩);have:=ih b.2 h;unfold qdj at this⊢;rw [find?_cons];simp only [c,decide_false];exact this
theorem qnj [DecidableEq κ]{m:List (κ×ν)}{k:κ}{v:ν}(h:k∈m.map (·.1)):(setK m k v).map (·.1)=m.map (·.1):=by
 unfold setK;rw [zI h,map_map];refine xC fun p _=>?_;simp only [Function.comp];split
 ·rename_i e;exact e.symm
 ·rfl
theorem qqo [DecidableEq κ]{m:List (κ×ν)}(c:(m.map (·.1)).Nodup)(k:κ)(v:ν):((setK m k v).map (·.1)).Nodup:=by
 by_cases h:k∈m.map (·.1)
 ·rw [qnj h];exact c
 ·unfold setK;rw [zF h,zn,xY];exact⟨c,wE,fun a g b d e=>h (by simp at d;subst d;rw [←e];exact g)⟩
def MapIn (P:Program)(K:TypeId)(ek:κ->Value)(ev:ν->Value)(w:World)(b:Nat)(m:List (κ×ν)):Prop:=
 ∃es clock,w.heap[b]?=some (.map es clock)/\es.toList.map (fun e=>(e.key,e.val))=m.map (fun p=>(ek p.1,ev p.2))/\(m.map (·.1)).Nodup/\(∀p,p∈m-> ∃l,keyOf P K (ek p.1)=some l)/\(∀e∈es.toList,e.born<clock)/\(es.toList.map (·.born)).Nodup
variable {P : Program} {T K E : TypeId} {ek : κ -> Value} {ev : ν -> Value}
theorem MapIn.keep {w w':World}{b:Nat}{m:List (κ×ν)}{C:Nat->Prop}(h:MapIn P K ek ev w b m)(hK:Keep C w w')(d:C b):MapIn P K ek ev w' b m:=by
 obtain⟨e,c,g,l⟩:=h;exact⟨e,c,hK.heap g d,l⟩
theorem qh7 (w:World):MapIn P K ek ev (w.alloc (.map #[] 0)) w.heap.size ([]:List (κ×ν)):=⟨#[],0,qh w _,rfl,wE,wE,wE,wE⟩
theorem MapIn.lt {w:World}{b:Nat}{m:List (κ×ν)}(h:MapIn P K ek ev w b m):b<w.heap.size:=by
 obtain⟨e,c,d,g⟩:=h;exact qe d
theorem qut {w:World}{m:List (κ×ν)}{c:Array MapEntry}(u:KeyLaw P K)(q: ∀a b,ek a=ek b->a=b)(X:c.toList.map (fun e=>(e.key,e.val))=m.map (fun p=>(ek p.1,ev p.2)))(hn:(m.map (·.1)).Nodup)(x: ∀p,p∈m-> ∃l,keyOf P K (ek p.1)=some l)
  (k:κ) (Y: ∃l,keyOf P K (ek k)=some l):
  ((Instr.findKey K (ek k) c.toList).run P w=.ok none w/\k∉m.map (·.1))∨ ∃(j:Nat) (v:ν) (e:MapEntry),(Instr.findKey K (ek k) c.toList).run P w=.ok (some (j,ev v)) w/\c[j]?=some e/\e.key=ek k/\m[j]?=some (k,v):=by
 obtain⟨l,U⟩:=Y;have d: ∀j:Nat,(c.toList[j]?).map (fun e=>(e.key,e.val))=(m[j]?).map (fun p=>(ek p.1,ev p.2)):=fun j=>by
  have:=yO (fun l=>l[j]?) X
  simpa only [zP]using this
 have t: ∀e,e∈c.toList-> ∃l,keyOf P K e.key=some l:=fun e s=>by
  obtain⟨j,z⟩:=zy.1 s;have h:=d j;rw [z]at h;cases g:m[j]? with
  |none=>simp [g] at h
  |some p=>
   rw [g]at h;simp at h;rw [h.1];exact x p (zH g)
 rcases u.find w U c.toList t with ⟨h1,h3⟩ |⟨j,e,h1,h3,h4⟩
 ·refine .inl ⟨h1,fun r=>?_⟩;obtain⟨p,R,rfl⟩:=yL.1 r;obtain⟨j,z⟩:=zy.1 R;have h:=d j;rw [z]at h;cases s:c.toList[j]? with
  |none=>simp [s] at h
  |some e=>
   rw [s]at h;simp at h;exact h3 e (zH s) h.1
 ·have h:=d j;rw [h3]at h;cases g:m[j]? with
  |none=>simp [g] at h
  |some p=>
   rw [g]at h;simp at h;have y:p.1=k:=q _ _ (by rw [←h.1,h4]);refine .inr ⟨j,p.2,e,by rw [h1,h.2],by simpa using h3,h4,?_⟩;rw [g,←y]
theorem qef [DecidableEq κ](hT:P.underlying T=some (.map K E))(g:KeyLaw P K)(p: ∀a b,ek a=ek b->a=b){z:Value}(X: ∀w,(zeroValue E).run P w=.ok z w){w:World}{b:Nat}{m:List (κ×ν)}(h:MapIn P K ek ev w b m)(k:κ)(hk: ∃l,keyOf P K (ek k)=some l)(d:Bool):
  (Instr.lookup T (.map (some b)) (ek k) d).run P w=.ok (match qdj m k with
   |some v=>if d then .tuple #[ev v,.bool true] else ev v
   |none=>if d then .tuple #[z,.bool false] else z) w:=by
 obtain⟨u,c,y,R,r,q,U,Y⟩:=h;have x:(getObj b).run P w=.ok (.map u c) w:=by simp [getObj,Sem.run,y]
 obtain⟨l,s⟩:=hk;have t:=g.check w u.isEmpty s;rcases qut (w:=w) g p R r q k ⟨l,s⟩ with ⟨hf,hno⟩ |⟨j,v,e,hf,_,_,hj⟩
 ·rw [ql5 hno];cases d<;>simp [Instr.lookup,yt,yo hT,Result.andThen,x,t,hf,X]
 ·have:=qpm r hj;simp only at this;rw [this];cases d<;>simp [Instr.lookup,yt,yo hT,Result.andThen,x,t,hf]
theorem qi0 [DecidableEq κ](hT:P.underlying T=some (.map K E))(R:KeyLaw P K)(ab: ∀a b,ek a=ek b->a=b){w:World}{b:Nat}{m:List (κ×ν)}(h:MapIn P K ek ev w b m)(k:κ)(hk: ∃l,keyOf P K (ek k)=some l)(v:ν):
  ∃w',(Instr.mapUpdate T (.map (some b)) (ek k) (ev v)).run P w=.ok () w'/\MapIn P K ek ev w' b (setK m k v)/\Keep (fun j=>j≠b) w w'/\w'.heap.size=w.heap.size:=by
 obtain⟨d,c,h1,h2,hn,X,U,ad⟩:=h;have hg:(getObj b).run P w=.ok (.map d c) w:=by simp [getObj,Sem.run,h1]
 have u: ∀o,(setObj b o).run P w=.ok () (w.putObj b o):=by intro o;simp [setObj,Sem.run,h1,World.putObj]
 have aj:=hk;obtain⟨l,hl⟩:=hk;have hc:=fun em=>R.check w em hl;rcases qut (w:=w) R ab h2 hn X k ⟨l,hl⟩ with ⟨hf,hno⟩ |⟨j,v0,e,hf,t,hek,hj⟩
 ·refine⟨w.putObj b (.map (d.push {key:=ek k,val:=ev v,born:=c}) (c+1)),?_,?_,Keep.putObj _ _ _ wE,wE⟩
  ·simp [Instr.mapUpdate,yt,yo hT,Result.andThen,hg,hc,hf,u]
  ·refine⟨_,_,xB (qe h1),?_,qqo hn k v,?_,?_,?_⟩
   ·unfold setK;rw [zF hno];simp [h2]
   rotate_left
   ·intro e t;simp only [Array.toList_push,zr,zm]at t;rcases t with t |rfl
    ·have:=U e t;omega
    ·simp
   ·simp only [Array.toList_push,zn,yZ,xk,xY];refine⟨ad,wE,fun a ha b hb e=>?_⟩;obtain⟨x,hx,rfl⟩:=yL.1 ha;simp only [zm]at hb;have:=U x hx;omega
   ·unfold setK;rw [zF hno];intro p g;rcases zr.1 g with g |g
    ·exact X p g
    ·simp at g;subst g;exact aj
 ·have s:k∈m.map (·.1):=yL.2 ⟨_,zH hj,rfl⟩;have aa:(d[j]?).map (·.key)=some (ek k):=by rw [t];simp [hek]
  have Y:=R.stays w hl;refine⟨w.putObj b (.map (d.modify j fun e=>{e with key:=ek k,val:=ev v}) c),?_,?_,Keep.putObj _ _ _ wE,wE⟩
  ·simp [Instr.mapUpdate,yt,yo hT,Result.andThen,hg,hc,hf,u,aa,Y]
  ·have an: ∀i:Nat,((d.modify j fun e=>{e with key:=ek k,val:=ev v}).toList[i]?).map (·.born)=(d.toList[i]?).map (·.born):=by
    intro i;simp only [xj,Array.getElem?_modify];by_cases hi:j=i
    ·subst hi;rw [t];simp
    ·simp [hi]
   have r:(d.modify j fun e=>{e with key:=ek k,val:=ev v}).toList.map (·.born)=d.toList.map (·.born):=xZ fun i=>by
    rw [zP,zP];exact an i
   refine⟨_,_,xB (qe h1),?_,qqo hn k v,?_,?_,by rw [r];exact ad⟩
   rotate_right
   ·intro x hx;have:x.born∈(d.modify j fun e=>{e with key:=ek k,val:=ev v}).toList.map (·.born):=yL.2 ⟨x,hx,rfl⟩;rw [r]at this;obtain⟨y,hy,am⟩:=yL.1 this;rw [←am];exact U y hy
   ·unfold setK;rw [zI s];apply xZ;intro i;have z:=yO (fun l=>l[i]?) h2;simp only [zP]at z;simp only [zP,xj,Array.getElem?_modify]at z⊢;by_cases hi:j=i
    ·subst hi;rw [hj,t];simp
    ·simp only [hi,xA];rw [z];cases hm:m[i]? with
     |none=>rfl
     |some q=>
      have hq:q.1≠k:=fun e=>by
       have h3:(m.map (·.1))[i]?=some k:=by rw [zP,hm];simp [e]
       have h4:(m.map (·.1))[j]?=some k:=by rw [zP,hj];rfl
       exact hi ((xy (zA.1 h4).1 hn).1 (h4.trans h3.symm))
      simp [hq]
   ·intro p g;have:p.1∈(setK m k v).map (·.1):=yL.2 ⟨p,g,rfl⟩;rw [qnj s]at this;obtain⟨q,hq,al⟩:=yL.1 this;rw [←al];exact X q hq
def MapRange (P:Program)(K:TypeId)(ek:κ->Value)(ev:ν->Value)(w:World)(b r:Nat)(m:List (κ×ν))(left:κ->Bool)(cnt:Nat):Prop:=
 ∃es clock since seen c0,w.heap[b]?=some (.map es clock)/\es.toList.map (fun e=>(e.key,e.val))=m.map (fun p=>(ek p.1,ev p.2))/\(m.map (·.1)).Nodup/\(∀p,p∈m-> ∃l,keyOf P K (ek p.1)=some l)/\(∀e∈es.toList,e.born<clock)/\(es.toList.map (·.born)).Nodup/\
  w.heap[r]?=some (.mapIter (some b) since seen c0)/\(∀e∈es.toList,e.born<since)/\since<=c0/\since<=clock/\(leftOf es seen).size=cnt/\ ∀(j:Nat) e p,es.toList[j]?=some e->m[j]?=some p->left p.1=!seen.contains e.born
theorem MapRange.keep {w w':World}{b r cnt:Nat}{m:List (κ×ν)}{d:κ->Bool}{C:Nat->Prop}(h:MapRange P K ek ev w b r m d cnt)(hK:Keep C w w')(v:C b)(l:C r):MapRange P K ek ev w' b r m d cnt:=by
 obtain⟨y,c,s,t,g,p,q,R,e,x,U,z,u⟩:=h;exact⟨y,c,s,t,g,hK.heap p v,q,R,e,x,U,hK.heap z l,u⟩
theorem MapRange.map {w:World}{b r cnt:Nat}{m:List (κ×ν)}{d:κ->Bool}(h:MapRange P K ek ev w b r m d cnt):MapIn P K ek ev w b m:=by
 obtain⟨q,c,s,x,v,g,l,t,e,p,u,z,y⟩:=h;exact⟨q,c,g,l,t,e,p,u⟩
theorem MapRange.lt {w:World}{b r cnt:Nat}{m:List (κ×ν)}{d:κ->Bool}(h:MapRange P K ek ev w b r m d cnt):r<w.heap.size:=by
 obtain⟨x,c,s,t,l,p,q,y,g,v,z,e,u⟩:=h;exact qe e
theorem q2f {w:World}{b:Nat}{m:List (κ×ν)}(hT:P.underlying T=some (.map K E))(h:MapIn P K ek ev w b m):
  ∃w',(Instr.range T (.map (some b))).run P w=.ok (.pointer (some ⟨w.heap.size,0,none⟩)) w'/\MapRange P K ek ev w' b w.heap.size m (fun _=>true) m.length/\wG w w'/\w'.heap.size=w.heap.size+1:=by
 obtain⟨g,c,l,q,s,r,d,t⟩:=h;refine⟨_,run_range_map w T K E b g c hT l,⟨g,c,c,#[],c,qf3 l _,q,s,r,d,t,qh _ _,d,zG _,zG _,?_,?_⟩,kAl,wE⟩
 ·have:=yO List.length q;simp at this;rw [←this];simp [leftOf]
 ·intro j e p _ _;simp
theorem q5k {w:World}{b r cnt:Nat}{m:List (κ×ν)}{s:κ->Bool}[DecidableEq κ](ty:TypeId)(h:MapRange P K ek ev w b r m s cnt):
  (cnt=0/\(∀p∈m,s p.1=false)/\(Instr.next (.pointer (some ⟨r,0,none⟩)) false ty).run P w=.ok (.tuple #[.bool false]) w)∨
  ∃k v w' cnt',(k,v)∈m/\s k=true/\(Instr.next (.pointer (some ⟨r,0,none⟩)) false ty).run P w=.ok (.tuple #[.bool true,ek k,ev v]) w'/\MapRange P K ek ev w' b r m (fun x=>s x&&decide (x≠k)) cnt'/\cnt'<cnt/\Keep (fun j=>j≠r) w w'/\w'.heap.size=w.heap.size/\
   (Instr.entry (.pointer (some ⟨r,0,none⟩))).run P w'=.ok (.tuple #[ek k,ev v]) w':=by
 obtain⟨y,c,d,g,c0,hb,h2,hn,ay,ao,X,hr,hold,ap,ab,rfl,hl⟩:=h;have ax: ∀j:Nat,(y.toList[j]?).map (fun e=>(e.key,e.val))=(m[j]?).map (fun p=>(ek p.1,ev p.2)):=fun j=>by
  have:=yO (fun l=>l[j]?) h2
  simpa only [zP]using this
 have az:y.toList.length=m.length:=by have:=yO List.length h2;simpa using this
 have aj:r≠b:=fun e=>by rw [e,hb] at hr;cases hr
 rcases run_next_at (P:=P) w ty r b d c0 g y c hr hb hold ap with ⟨h0,hrun⟩ |⟨e,he,w1,hal,hrun⟩
 ·refine .inl ⟨h0,fun p R=>?_,hrun⟩;obtain⟨j,z⟩:=zy.1 R;have av:=(zA.1 z).1;obtain⟨e,he⟩: ∃e,y.toList[j]?=some e:=⟨_,zB wC⟩;rw [hl j e p he z,all_seen y g h0 e (zH he)]
  rfl
 ·obtain⟨af,ak⟩:=mem_left he;obtain⟨j,z⟩:=zy.1 af;have av:=(zA.1 z).1;obtain⟨p,R⟩: ∃p,m[j]?=some p:=⟨_,zB wC⟩;have u:=ax j;rw [z,R]at u;simp only [Option.map_some,yd,Prod.mk.injEq]at u;have ar:w1.heap[r]?=some (.mapIter (some b) d g c0):=by rcases hal with rfl |rfl<;>exact hr
  have aq:w1.heap[b]?=some (.map y c):=by rcases hal with rfl |rfl<;>exact hb
  have t:=Go.MapKept.heap_set (o':=.mapIter (some b) d (g.push e.born) c) ar;have ad:(Go.ChangeMaps.setBlock w1 r (.mapIter (some b) d (g.push e.born) c)).heap[b]?=some (.map y c):=(t.2 b (fun Y=>aj Y.symm)).trans aq;refine .inr ⟨p.1,p.2,_,_,zH R,?_,by rw [←u.1,←u.2];exact hrun,⟨y,c,d,g.push e.born,c,ad,h2,hn,ay,ao,X,t.1,hold,ab,ab,rfl,?_⟩,left_shrinks y g e he,?_,?_,by rw [←u.1,←u.2];exact run_entry_at _ r b d g y c e t.1 ad af X⟩
  ·rw [hl j e p z R,ak];rfl
  ·intro i x q hx hq;show(s q.1&&decide (q.1≠p.1))=_;rw [hl i x q hx hq,contains_push];by_cases U:i=j
   ·subst U;rw [z]at hx;cases hx;rw [R]at hq;cases hq;simp
   ·have h1:q.1≠p.1:=fun Y=>by
     have q1:(m.map (·.1))[i]?=some q.1:=by rw [zP,hq];rfl
     have q2:(m.map (·.1))[j]?=some q.1:=by rw [zP,R,Y];rfl
     exact U ((xy (zA.1 q1).1 hn).1 (q1.trans q2.symm))
    have h3:(x.born==e.born)=false:=by
     rw [y9];intro Y;have q1:(y.toList.map (·.born))[i]?=some x.born:=by rw [zP,hx];rfl
     have q2:(y.toList.map (·.born))[j]?=some x.born:=by rw [zP,z,Y];rfl
     exact U ((xy (zA.1 q1).1 X).1 (q1.trans q2.symm))
    simp [h1,h3]
  ·rcases hal with rfl |rfl<;>exact⟨rfl,rfl,rfl,by simp [Go.ChangeMaps.setBlock],fun i _ hi=>t.2 i hi⟩
  ·rcases hal with rfl |rfl<;>simp [Go.ChangeMaps.setBlock]
variable {ops : Array Oper} {rest : List Oper} {o : Oper} {a : Act} {Q : Exit -> Act -> World -> Prop}
theorem qzl {w:World}{b:Nat}{m:List (κ×ν)}(r:o.guard=none)(x:Operand)(t:TypeId)(e:o.op=Op.range t x)(hT:P.underlying t=some (.map K E))(q:a.eval x=.map (some b))(h:MapIn P K ek ev w b m)
  (hK: ∀w',MapRange P K ek ev w' b w.heap.size m (fun _=>true) m.length->wG w w'->w'.heap.size=w.heap.size+1->wpList P ops Q rest (a.put o.dst (.pointer (some ⟨w.heap.size,0,none⟩))) w'):
  wpList P ops Q (o::rest) a w:=by
 refine wpList_plain r fun s d=>?_;obtain⟨w',c,p,l,g⟩:=q2f hT h;unfold Oper.wp;simp [execOp,e,q,c,Result.andThen];exact d _ _ (hK w' p l g)
theorem q2g {w:World}{b r cnt:Nat}{m:List (κ×ν)}{c:κ->Bool}[DecidableEq κ](s:o.guard=none)(it:Operand)(g:o.op=Op.next it false)(q:a.eval it=.pointer (some ⟨r,0,none⟩))(h:MapRange P K ek ev w b r m c cnt)
  (d:cnt=0->(∀p∈m,c p.1=false)->wpList P ops Q rest (a.put o.dst (.tuple #[.bool false])) w)
  (e: ∀(k:κ) (v:ν) (w':World) (cnt':Nat),(k,v)∈m->c k=true->MapRange P K ek ev w' b r m (fun x=>c x&&decide (x≠k)) cnt'->cnt'<cnt->Keep (fun j=>j≠r) w w'->w'.heap.size=w.heap.size->
   (Instr.entry (.pointer (some ⟨r,0,none⟩))).run P w'=.ok (.tuple #[ek k,ev v]) w'->wpList P ops Q rest (a.put o.dst (.tuple #[.bool true,ek k,ev v])) w'):
  wpList P ops Q (o::rest) a w:=by
 refine wpList_plain s fun t l=>?_;unfold Oper.wp;rcases q5k o.type h with ⟨h0,hl,hrun⟩ |⟨k,v,w',cnt',h1,h2,hrun,h3,h4,h5,h6,h7⟩
 ·simp [execOp,g,q,hrun,Result.andThen];exact l _ _ (d h0 hl)
 ·simp [execOp,g,q,hrun,Result.andThen];exact l _ _ (e k v w' cnt' h1 h2 h3 h4 h5 h6 h7)
end
section
variable {κ ν : Type} {P : Program} {T K E : TypeId} {ek : κ -> Value} {ev : ν -> Value}
theorem qzm [DecidableEq κ](hT:P.underlying T=some (.map K E))(ad:KeyLaw P K)(g: ∀a b,ek a=ek b->a=b){z:Value}(hz: ∀w:World,(zeroValue E).run P w=.ok z w){w:World}{b:Nat}{m:List (κ×ν)}(h:MapIn P K ek ev w b m)(aq:m.length<=maxLen)(k:κ)(hk: ∃l,keyOf P K (ek k)=some l):
  ∃(v0:Value) (st:Int) (w1:World),(Instr.mapEntry T (.map (some b)) (ek k)).run P w=.ok (.tuple #[v0,.int .i64 st]) w1/\((∃v,(k,v)∈m/\v0=ev v)∨(k∉m.map (·.1)/\v0=z))/\
   Keep (fun j=>j≠b) w w1/\w1.heap.size=w.heap.size/\
   ∀(w2:World),w2.heap[b]?=w1.heap[b]?-> ∀v:ν,∃w3,(Instr.entryStore T (.map (some b)) (.int .i64 st) (ev v)).run P w2=.ok () w3/\MapIn P K ek ev w3 b (setK m k v)/\Keep (fun j=>j≠b) w2 w3/\w3.heap.size=w2.heap.size:=by
 obtain⟨t,c,h1,h2,hn,aw,ak,ao⟩:=id h;obtain⟨l,hl⟩:=id hk;have ah: ∀j:Nat,(t.toList[j]?).map (fun e=>(e.key,e.val))=(m[j]?).map (fun p=>(ek p.1,ev p.2)):=fun j=>by
  have:=yO (fun l=>l[j]?) h2
  simpa only [zP]using this
 have ag:t.toList.length=m.length:=by have:=yO List.length h2;simpa using this
 have r: ∀e,e∈t.toList-> ∃p,p∈m/\e.key=ek p.1/\e.val=ev p.2:=fun e X=>by
  obtain⟨j,hj⟩:=zy.1 X;have am:=(zA.1 hj).1;obtain⟨p,q⟩: ∃p,m[j]?=some p:=⟨_,zB wC⟩;have:=ah j;rw [hj,q]at this;simp only [Option.map_some,yd,Prod.mk.injEq]at this;exact⟨p,zH q,this.1,this.2⟩
 have R: ∀p,p∈m-> ∃e,e∈t.toList/\e.key=ek p.1/\e.val=ev p.2:=fun p q=>by
  obtain⟨j,hj⟩:=zy.1 q;have am:=(zA.1 hj).1;obtain⟨e,X⟩: ∃e,t.toList[j]?=some e:=⟨_,zB wC⟩;have:=ah j;rw [hj,X]at this;simp only [Option.map_some,yd,Prod.mk.injEq]at this;exact⟨e,zH X,this.1,this.2⟩
 have y:t.toList.map (·.key)=(m.map (·.1)).map ek:=by
  have:=yO (List.map Prod.fst) h2
  simpa [map_map,Function.comp_def]using this
 have ai:Go.WideElems.Fit (H:=Unit) P K (fun _=>some (.nil,[])) t c:=by
  refine⟨by rw [←Array.length_toList,ag];exact aq,⟨ak,ao,?_⟩,fun x hx=>?_⟩
  ·rw [y];exact List.Pairwise.map ek (fun a b aj e=>aj (g a b e)) hn
  ·obtain⟨p,q,e1,_⟩:=r x hx;obtain⟨l,hl⟩:=aw p q;exact⟨(l,.nil),by simp [Go.WideElems.rd,e1,hl]⟩
 obtain⟨v0,st,aN,c1,af,hv,an⟩:=Go.WideElems.entry_then_store (P:=P) ad hT hz h1 ai hl;have d: ∀(u:World) (o:Obj),b<u.heap.size->(Go.ChangeMaps.setBlock u b o).heap[b]?=some o/\Keep (fun j=>j≠b) u (Go.ChangeMaps.setBlock u b o)/\(Go.ChangeMaps.setBlock u b o).heap.size=u.heap.size:=fun u o Y=>by
  refine⟨by simp [Go.ChangeMaps.setBlock,Y],⟨rfl,rfl,rfl,by simp [Go.ChangeMaps.setBlock],fun i _ hi=>?_⟩,by simp [Go.ChangeMaps.setBlock]⟩;simp only [Go.ChangeMaps.setBlock];rw [Array.getElem?_setIfInBounds_ne (fun e=>hi e.symm)]
 have Y:=qe h1;refine⟨v0,st,_,af,?_,(d w _ Y).2.1,(d w _ Y).2.2,fun w2 U v=>?_⟩
 ·rcases hv with ⟨e0,he0,hek,hev⟩ |⟨hno,hz0⟩
  ·obtain⟨p,q,e1,e2⟩:=r e0 he0;have:p.1=k:=g _ _ (by rw [←e1,hek]);exact .inl ⟨p.2,by rw [←this];exact q,by rw [hev,e2]⟩
  ·refine .inr ⟨fun ap=>?_,hz0⟩;obtain⟨p,q,rfl⟩:=yL.1 ap;obtain⟨e,X,e1,_⟩:=R p q;exact hno e X e1
 ·rw [(d w _ Y).1]at U;obtain⟨aK,c',av,al⟩:=an w2 (ev v) U;obtain⟨w',aa,hM,_,_⟩:=qi0 hT ad g h k hk v;rw [al]at aa;cases aa;obtain⟨aE,c2,q1,q2,q3,q4,q5,q6⟩:=hM;rw [(d w _ Y).1]at q1;cases q1;have s:=qe U;exact⟨_,av,⟨_,_,(d w2 _ s).1,q2,q3,q4,q5,q6⟩,(d w2 _ s).2.1,(d w2 _ s).2.2⟩
end
end Go.Ink
namespace Go.Ink
open Go.RowKit
structure qgm (Γ:Type) where
 inv:Γ->World->Prop
 free:Γ->Nat->Prop
 istep:Γ->World->Γ->World->Prop
 bstep:Γ->Nat->Γ->Prop
 ifree: ∀{γ X γ' Y},istep γ X γ' Y->Keep (free γ) X Y
 inew: ∀{γ X γ' Y},istep γ X γ' Y-> ∀b,b<X.heap.size->free γ b->free γ' b
 bnew: ∀{γ n γ'},bstep γ n γ'-> ∀b,b<n->free γ b->free γ' b
 bmono: ∀{γ n n0 γ'},n0<=n->bstep γ n γ'->bstep γ n0 γ'
 invk: ∀{γ X Y},inv γ X->Keep (fun b=> ¬free γ b) X Y->inv γ Y
variable {Γ : Type}
def qh8 (Sy:qgm Γ)(V:World->Prop)(J Jx:Nat->Γ->World->Prop)(k:Nat)(γ:Γ)(X:World)(e:Ending)(Y:World):Prop:=
 ∃γ',Sy.inv γ' Y/\V Y/\Sy.bstep γ X.heap.size γ'/\X.heap.size<=Y.heap.size/\((e=.returned (.bool true)/\J (k+1) γ' Y)∨(e=.returned (.bool false)/\Jx k γ' Y))
def qoe (P:Program)(g:Nat)(lb:Array Value)(Sy:qgm Γ)(N:Γ->Nat)(A:Γ->Nat->Γ->Nat->World->Array Value->Prop)(V:World->Prop)(U:Nat->Prop):Prop:=
 ∀(l:Nat) (J Jx:Nat->Γ->World->Prop) (W:World) (γ0:Γ),l<W.heap.size->Sy.inv γ0 W->V W->(∀b,U b->Sy.free γ0 b)->
  (∀k γ X γ' Y,J k γ X->Sy.istep γ X γ' Y->J k γ' Y)->
  (∀k γ X γ' Y,Jx k γ X->Sy.istep γ X γ' Y->Jx k γ' Y)->
  (∀k γ X0 X args,k<N γ0->J k γ X0->Sy.istep γ X0 γ X->Sy.inv γ X->V X->W.heap.size<=X0.heap.size->A γ0 k γ X0.heap.size X args->YieldAt Fence.wide 0 P l args X (qh8 Sy V J Jx k γ X))->
  J 0 γ0 W->
  Calls P g (#[.func (.yield l) #[] #[]]++lb) W fun e W'=>(∃v,e=.returned v)/\W.heap.size<=W'.heap.size/\
   ∃γ',Sy.inv γ' W'/\V W'/\(J (N γ0) γ' W'∨ ∃k,k<N γ0/\Jx k γ' W')
def qfq (Sy:qgm Γ)(B l n:Nat)(V:World->Prop)(γ:Γ)(Y0 Y:World)(R:Γ->Prop):Prop:=
 ∃γ',Sy.inv γ' Y/\V Y/\Sy.bstep γ n γ'/\Keep (fun b=>B<=b/\b<=l) Y0 Y/\R γ'
def q8q (Sy:qgm Γ)(B l n:Nat)(V:World->Prop)(I:Nat->Γ->World->Prop)(Ix:Code->Nat->Γ->World->Prop)(k:Nat)(γ:Γ)(Y0:World):Exit->Act->World->Prop
 |.normal,_,Y=>qfq Sy B l n V γ Y0 Y fun γ'=>I (k+1) γ' Y
 |.ret,_,Y=>qfq Sy B l n V γ Y0 Y fun γ'=>Ix .ret k γ' Y
 |.exit id,_,Y=>qfq Sy B l n V γ Y0 Y fun γ'=>Ix (.exit id) k γ' Y
 |.goto t,_,Y=>qfq Sy B l n V γ Y0 Y fun γ'=>Ix (.goto t) k γ' Y
 |.panic _,_,_=>False
 |.outgrown,_,_=>False
def qyg (Sy:qgm Γ)(P:Program)(l B:Nat)(body:Code)(V:World->Prop)(I:Nat->Γ->World->Prop)(Ix:Code->Nat->Γ->World->Prop)(k:Nat)(γ:Γ)(X:World)(a₁:Act)(X₁:World):Prop:=
 Keep (fun b=>b<X.heap.size) X X₁/\
  ∀Y,Keep (fun b=>b≠l) X₁ Y->Y.heap.size=X₁.heap.size->(∃r,Y.heap[l]?=some (.loop r))->body.wpIn (inR l) 0 P (q8q Sy B l X.heap.size V I Ix k γ Y) a₁ Y
theorem q2h {P:Program}{fn:FuncId}{l B:Nat}{rec:LoopState->Option Code->Loop}{tmps0:Array Value}{ps:Array Tmp}{assign body:Code}{df:Nat}(s:qgm Γ)
  (r:rec=fun st pe=>{state:=st,pending:=pe,fn:=fn,tmps:=tmps0,params:=ps,assign:=assign,body:=body,defers:=df})
  (hlB:B<=l) {args:Array Value} (hps:args.size=ps.size) {V:World->Prop} (hVst: ∀X Y,V X->Keep (fun b=>b<B) X Y->V Y)
  {I:Nat->Γ->World->Prop} {Ix:Code->Nat->Γ->World->Prop}
  (hI: ∀k γ X Y,I k γ X->Keep (fun b=>b≠l) X Y->I k γ Y) (hIx: ∀c k γ X Y,Ix c k γ X->Keep (fun b=>b≠l) X Y->Ix c k γ Y)
  (X:World) (k:Nat) (γ:Γ) (hfl:s.free γ l) (hl:X.heap[l]?=some (.loop (rec .ready none)))
  (hround:assign.wpIn (inR l) 0 P (Exit.then (qyg s P l B body V I Ix k γ X) (fun _ _ _=>False)) {tmps:=(ps.zip args).foldl (fun t (p,v)=>t.setIfInBounds p v) tmps0,defers:= []} X):
  YieldAt Fence.wide 0 P l args X (qh8 s V
   (fun k γ W=>I k γ W/\s.free γ l/\W.heap[l]?=some (.loop (rec .ready none)))
   (fun k γ W=> ∃c,Ix c k γ W/\s.free γ l/\W.heap[l]?=some (.loop (rec .done (some c)))) k γ X):=by
 have hy:=run_yield (P:=P) (args:=args) hl (by rw [r];exact hps);rw [r]at hy;have ab:=qe hl;refine⟨fn,_,assign,body,hy,roundIn_of_wpIn (F:=Fence.wide) trivial (xt hround ?_)⟩;intro e a₁ X₁ he;cases e with
 |normal=>
  obtain⟨al,hb⟩:=he;have U:X₁.heap[l]?=some (.loop (rec .ready none)):=al.heap hl ab;refine⟨_,run_beginRound U (by rw [r]),?_⟩;have ad:(X₁.putObj l (.loop {rec .ready none with state:=.busy})).heap[l]?=some (.loop {rec .ready none with state:=.busy}):=xB (qe U);have af:Keep (fun b=>b≠l) X₁ (X₁.putObj l (.loop {rec .ready none with state:=.busy})):=Keep.putObj _ _ _ wE;refine xt (hb _ af wE ⟨_,ad⟩) ?_;generalize hY0:X₁.putObj l (.loop {rec .ready none with state:=.busy})=Y0 at ad af;clear hY0 hb;have x: ∀(g:Option Code) (Y:World) (R:Γ->Prop),qfq s B l X.heap.size V γ Y0 Y R->
    ∃u,(Instr.endRound l g).run P Y=.ok (.bool g.isNone) u/\u.heap[l]?=some (.loop (rec (if g.isNone then .ready else .done) g))/\Keep (fun b=>b≠l) Y u/\
    ∃q,s.inv q u/\V u/\s.bstep γ X.heap.size q/\X.heap.size<=u.heap.size/\s.free q l/\R q:=by
   rintro g Y R ⟨q,hinv,z,d,hK,y⟩;have am:Y.heap[l]?=some (.loop {rec .ready none with state:=.busy}):=hK.heap ad ⟨hlB,zG _⟩;have:=run_endRound (P:=P) g am;have aa:=s.bnew d l ab hfl;refine⟨_,this,?_,Keep.putObj _ _ _ wE,q,s.invk hinv (Keep.putObj _ _ _ (by simpa using aa)),hVst _ _ z (Keep.putObj _ _ _ (by simp;omega)),d,?_,aa,y⟩
   ·rw [xB (qe am)];subst r;rfl
   ·have h1:=al.size;have h2:=af.size;have h3:=hK.size;simp;omega
  rintro e a3 Y hp;cases e with
  |normal=>
   obtain⟨u,hr,h,m,q,hinv,z,d,hz,hf,y⟩:=x none Y _ hp;exact⟨_,_,hr,q,hinv,z,d,hz,.inl ⟨rfl,hI _ _ _ _ y m,hf,h⟩⟩
  |ret=>
   obtain⟨u,hr,h,m,q,hinv,z,d,hz,hf,y⟩:=x (some .ret) Y _ hp;exact⟨_,_,hr,q,hinv,z,d,hz,.inr ⟨rfl,.ret,hIx _ _ _ _ _ y m,hf,h⟩⟩
  |exit id=>
   obtain⟨u,hr,h,m,q,hinv,z,d,hz,hf,y⟩:=x (some (.exit id)) Y _ hp;exact⟨_,_,hr,q,hinv,z,d,hz,.inr ⟨rfl,.exit id,hIx _ _ _ _ _ y m,hf,h⟩⟩
  |goto t=>
   obtain⟨u,hr,h,m,q,hinv,z,d,hz,hf,y⟩:=x (some (.goto t)) Y _ hp;exact⟨_,_,hr,q,hinv,z,d,hz,.inr ⟨rfl,.goto t,hIx _ _ _ _ _ y m,hf,h⟩⟩
  |panic ch=>exact hp.elim
  |outgrown=>exact hp.elim
 |ret=>exact he.elim
 |exit id=>exact he.elim
 |goto t=>exact he.elim
 |panic c=>exact he.elim
 |outgrown=>exact he.elim
theorem qnk {P:Program}{g:Operand}{ps:Array Tmp}{assign body:Code}{Q:Exit->Act->World->Prop}{a:Act}{w:World}(d:qgm Γ)(s:Γ)
  {gf:Nat} {lb:Array Value} (hg:a.eval g=.func (.func gf) #[] lb) (eg: ∀args w,(callFunc gf args).run P w=.ok (.enter gf args) w)
  {N:Γ->Nat} {A:Γ->Nat->Γ->Nat->World->Array Value->Prop} {V:World->Prop} {U:Nat->Prop} (az:qoe P gf lb d N A V U) (hU: ∀b,U b->d.free s b) (aD: ∀s k γ n X args,A s k γ n X args->args.size=ps.size)
  (ab:d.inv s w) (u: ∀b,w.heap.size<=b->d.free s b) (ar:V w) (q: ∀X Y,V X->Keep (fun b=>b<w.heap.size) X Y->V Y)
  (I:Nat->Γ->World->Prop) (Ix:Code->Nat->Γ->World->Prop)
  (hI: ∀k γ X Y,I k γ X->Keep (fun b=>b<w.heap.size∨w.heap.size+2<=b) X Y->I k γ Y) (ai: ∀c k γ X Y,Ix c k γ X->Keep (fun b=>b<w.heap.size∨w.heap.size+2<=b) X Y->Ix c k γ Y)
  (al: ∀k γ X γ' Y,I k γ X->d.istep γ X γ' Y->I k γ' Y) (ao: ∀c k γ X γ' Y,Ix c k γ X->d.istep γ X γ' Y->Ix c k γ' Y)
  (h0:I 0 s w)
  (x: ∀l k γ X0 X args,w.heap.size<=l->l<X0.heap.size->(d.free γ l/\d.free γ w.heap.size/\l=w.heap.size+1)->k<N s->I k γ X0->d.istep γ X0 γ X->d.inv γ X->V X->w.heap.size+2<=X0.heap.size->A s k γ X0.heap.size X args->assign.wpIn (inR l) 0 P (Exit.then (qyg d P l w.heap.size body V I Ix k γ X) (fun _ _ _=>False)) {tmps:=(ps.zip args).foldl (fun t (p,v)=>t.setIfInBounds p v) a.tmps,defers:= []} X)
  (hdone: ∀D γ W,(w.heap.size<=D/\D<=w.heap.size)->d.free γ D->W.heap[D]?=some (.deferred (some []))->w.heap.size<=W.heap.size->I (N s) γ W->d.inv γ W->V W->Q .normal {a with defers:={target:=.collected D,args:= #[]}::a.defers} W)
  (hstop: ∀D c k γ W,(w.heap.size<=D/\D<=w.heap.size)->d.free γ D->W.heap[D]?=some (.deferred (some []))->w.heap.size<=W.heap.size->k<N s->Ix c k γ W->d.inv γ W->V W->c.wpIn Fence.wide 0 P Q {a with defers:={target:=.collected D,args:= #[]}::a.defers} W):
  (Code.rangeFunc g ps assign body).wpIn Fence.wide 0 P Q a w:=by
 obtain⟨W1,aa⟩:=ex ((w.alloc (.deferred (some []))).alloc (.deferred (some [])));have aA:W1.heap.size=w.heap.size+2:=by rw [←aa];simp
 have aF:W1.heap[w.heap.size]?=some (.deferred (some [])):=by
  rw [←aa];exact(xO _ _ _ wE).trans (xP w _)
 have z:wG w W1:=by rw [←aa];exact(Keep.alloc _ w _).trans kAl
 refine wpIn_rangeFunc ?_;intro fn _;obtain⟨W2,ah,an,aN,aC,aj⟩: ∃W1',(Instr.enterLoop fn a.tmps ps assign body Fence.wide.round).run P w=.ok (w.heap.size+1,[{target:=.collected w.heap.size,args:= #[]}]) W1'/\wG w W1'/\W1'.heap.size=W1.heap.size/\
    W1'.heap[w.heap.size+1]?=some (.loop {state:=.ready,pending:=none,fn:=fn,tmps:=a.tmps,params:=ps,assign:=assign,body:=body,defers:=w.heap.size})/\Keep (fun b=>b≠w.heap.size+1) W1 W1':=by
  refine⟨_,run_enterLoop_outer _ _ _ _ _,(Keep.alloc _ w _).trans kAl,by rw [aA];simp,?_,?_⟩
  ·have:=xP (w.alloc (.deferred (some []))) (.loop {state:=.ready,pending:=none,fn:=fn,tmps:=a.tmps,params:=ps,assign:=assign,body:=body,defers:=w.heap.size})
   rwa [zO] at this
  ·rw [←aa];refine⟨rfl,rfl,rfl,wE,fun k hk hC=>?_⟩;have am:k<(w.alloc (.deferred (some []))).heap.size:=by simp at hk⊢;omega
   rw [xO _ _ _ am,xO _ _ _ am]
 refine⟨w.heap.size+1,_,W2,{target:=.fn (.func gf) lb,args:= #[.func (.yield (w.heap.size+1)) #[] #[]]},W2,gf,#[.func (.yield (w.heap.size+1)) #[] #[]]++lb,W2,ah,?_,fun f' _=>wH,?_,fun h=>by have ax:Fence.wide.depth=none:=rfl;simp [ax] at h,?_⟩
 ·simp only [resolve,hg];simp [go_sem]
 ·simp [invoke,go_sem,eg]
 ·have au:W2.heap[w.heap.size]?=some (.deferred (some [])):=aj.heap aF wC;have y:=az (w.heap.size+1)
   (fun k γ W=>(I k γ W/\d.free γ w.heap.size/\W.heap[w.heap.size]?=some (.deferred (some [])))/\d.free γ (w.heap.size+1)/\W.heap[w.heap.size+1]?=some (.loop {state:=.ready,pending:=none,fn:=fn,tmps:=a.tmps,params:=ps,assign:=assign,body:=body,defers:=w.heap.size}))
   (fun k γ W=> ∃c,(Ix c k γ W/\d.free γ w.heap.size/\W.heap[w.heap.size]?=some (.deferred (some [])))/\d.free γ (w.heap.size+1)/\W.heap[w.heap.size+1]?=some (.loop {state:=.done,pending:=some c,fn:=fn,tmps:=a.tmps,params:=ps,assign:=assign,body:=body,defers:=w.heap.size}))
   W2 s wC (d.invk ab an.mt) (q _ _ ar an.mt) hU
   (fun k γ X γ' Y h r=>⟨⟨al k γ X γ' Y h.1.1 r,d.inew r _ (qe h.1.2.2) h.1.2.1,(d.ifree r).heap h.1.2.2 h.1.2.1⟩,d.inew r _ (qe h.2.2) h.2.1,(d.ifree r).heap h.2.2 h.2.1⟩)
   (fun k γ X γ' Y h r=>by
    obtain⟨c,h1,h2,h3⟩:=h;exact⟨c,⟨ao c k γ X γ' Y h1.1 r,d.inew r _ (qe h1.2.2) h1.2.1,(d.ifree r).heap h1.2.2 h1.2.1⟩,d.inew r _ (qe h3) h2,(d.ifree r).heap h3 h2⟩)
   (fun k γ X0 X args hk h00 hist hinv hV hz hA=>by
    have h:(I k γ X/\d.free γ w.heap.size/\X.heap[w.heap.size]?=some (.deferred (some [])))/\d.free γ (w.heap.size+1)/\X.heap[w.heap.size+1]?=some (.loop {state:=.ready,pending:=none,fn:=fn,tmps:=a.tmps,params:=ps,assign:=assign,body:=body,defers:=w.heap.size}):=⟨⟨al k γ X0 γ X h00.1.1 hist,h00.1.2.1,(d.ifree hist).heap h00.1.2.2 h00.1.2.1⟩,h00.2.1,(d.ifree hist).heap h00.2.2 h00.2.1⟩;have:=q2h (P:=P) (fn:=fn) (l:=w.heap.size+1) (B:=w.heap.size) (tmps0:=a.tmps) (ps:=ps) (assign:=assign) (body:=body) (df:=w.heap.size) d
     (rec:=fun st pe=>{state:=st,pending:=pe,fn:=fn,tmps:=a.tmps,params:=ps,assign:=assign,body:=body,defers:=w.heap.size}) rfl wC (aD _ _ _ _ _ _ hA) q
     (I:=fun k γ W=>I k γ W/\d.free γ w.heap.size/\W.heap[w.heap.size]?=some (.deferred (some [])))
     (Ix:=fun c k γ W=>Ix c k γ W/\d.free γ w.heap.size/\W.heap[w.heap.size]?=some (.deferred (some [])))
     (fun k γ X Y h hK=>⟨hI k γ X Y h.1 (hK.mono fun b _ h=>wC),h.2.1,hK.heap h.2.2 wC⟩)
     (fun c k γ X Y h hK=>⟨ai c k γ X Y h.1 (hK.mono fun b _ h=>wC),h.2.1,hK.heap h.2.2 wC⟩)
     X k γ h.2.1 h.2.2 (by
      refine xt (x (w.heap.size+1) k γ X0 X args wC (qe h00.2.2) ⟨h.2.1,h.1.2.1,rfl⟩ hk h00.1.1 hist hinv hV wC hA) ?_;intro e a₁ X₁ he;cases e with
      |normal=>
       obtain⟨z,hb⟩:=he;refine⟨z,fun Y hY r hl=>xt (hb Y hY r hl) ?_⟩;have ay:Y.heap[w.heap.size]?=some (.deferred (some [])):=hY.heap (z.heap h.1.2.2 (by have:=qe h.1.2.2;omega)) wC;have m: ∀(R:Γ->Prop) (Z:World),qfq d w.heap.size (w.heap.size+1) X.heap.size V γ Y Z R->qfq d w.heap.size (w.heap.size+1) X.heap.size V γ Y Z (fun γ'=>R γ'/\d.free γ' w.heap.size/\Z.heap[w.heap.size]?=some (.deferred (some []))):=by
        rintro R Z ⟨γ',q1,q2,q3,q4,q5⟩;exact⟨γ',q1,q2,q3,q4,q5,d.bnew q3 _ (qe h.1.2.2) h.1.2.1,q4.heap ay ⟨zG _,wC⟩⟩
       rintro e' a' Z hz;cases e' with
       |normal=>exact m _ _ hz
       |ret=>exact m _ _ hz
       |exit id=>exact m _ _ hz
       |goto t=>exact m _ _ hz
       |panic c=>exact hz.elim
       |outgrown=>exact hz.elim
      |ret=>exact he.elim
      |exit id=>exact he.elim
      |goto t=>exact he.elim
      |panic c=>exact he.elim
      |outgrown=>exact he.elim)
    exact this)
   ⟨⟨hI _ _ _ _ (hI _ _ _ _ h0 z.mt) (aj.mono fun b _ h=>wC),u _ (zG _),au⟩,u _ wC,aC⟩
  have aw:Calls P gf (#[.func (.yield (w.heap.size+1)) #[] #[]]++lb) W2 (rangePost Fence.wide 0 P (w.heap.size+1) Q {a with defers:= [{target:=.collected w.heap.size,args:= #[]}]++a.defers}):=by
   refine y.mono ?_;rintro e W3 ⟨⟨v,rfl⟩,aZ,γ',hinv,ap,hJ |⟨k,hk,c,hx,hf,hh⟩⟩
   ·obtain⟨⟨hi,av,hD⟩,hf,hh⟩:=hJ;refine⟨none,_,run_endLoop (P:=P) hh wE,hdone _ γ' _ ⟨zG _,zG _⟩ av ?_ (by simp;omega) (hI _ _ _ _ hi (Keep.putObj _ _ _ wC)) (d.invk hinv (Keep.putObj _ _ _ (by simpa using hf))) (q _ _ ap (Keep.putObj _ _ _ wC))⟩;rw [World.putObj_heap_other wC];exact hD
   ·refine⟨some c,_,run_endLoop (P:=P) hh wE,hstop _ c k γ' _ ⟨zG _,zG _⟩ hx.2.1 ?_ (by simp;omega) hk (ai _ _ _ _ _ hx.1 (Keep.putObj _ _ _ wC)) (d.invk hinv (Keep.putObj _ _ _ (by simpa using hf))) (q _ _ ap (Keep.putObj _ _ _ wC))⟩;rw [World.putObj_heap_other wC];exact hx.2.2
  exact zU.2 aw
end Go.Ink
namespace Go.Proofs.R4
open Go.RowKit Go.Ink
attribute [local go_sem] Oper.semAt_some
def ic (x:Int):List Value:= [.int .i64 x]
theorem qnl (l:List Int):l.flatMap ic=l.map (.int .i64):=by
 induction l with
 |nil=>rfl
 |cons a l ih=>simp [ic,ih]
theorem qnm:qcj prog 86 3 1 8:=qc2 (z:=.int .i64 0) wD wD rfl wF wF
theorem qeg {n:Nat}{w w':World}{v:Value}{ss:List Int}(h:qat n w v ss){m:Nat}(hK:Keep (fun k=>k<m) w w')(c:n<=m):qat n w' v ss:=
 h.mono fun _ _ _ b h=>hK.cell h (zk b c)
theorem qqp {n b:Nat}{w:World}{v:Value}{ss:List Int}(h:qat n w v ss)(c:n<=b):qat b w v ss:=
 SliceIn.wider h c fun _ _ _ _ h=>h
def qzn (n:Nat)(w:World)(b o:Nat)(t:List Int):Prop:= ∃sv,w.cell? ⟨b,o,none⟩=some sv/\qat n w sv t
def qdp (n:Nat)(t:List Int):Bool:=decide (t.length=n)&&t.all fun x=>decide (0<=x)
def qfe (ts:List (List Int))(t:List Int):Option Nat:=(List.range ts.length).find? fun i=>decide (ts[i]?=some t)
def qle:Option Nat->Value
 |none=>.tuple #[.int .i64 0,.bool false]
 |some i=>.tuple #[.int .i64 i,.bool true]
def qlf (t cols key:List Int):Bool:=(List.range cols.length).all fun j=>decide (t[(cols.getD j 0).toNat]?=key[j]?)
def qif (n:Nat)(cols:List Int)(i:Nat):Bool:=decide (0<=cols.getD i 0)&&decide (cols.getD i 0<n)&&(i==0 ||decide (cols.getD (i-1) 0<cols.getD i 0))
def qd8 (n:Nat)(cols:List Int):Bool:=(List.range cols.length).all (qif n cols)
theorem qof {n:Nat}{b:List Int}(h:qd8 n b=true): ∀c,c∈b->0<=c/\c<n:=fun c d=>by
 obtain⟨i,hi⟩:=zy.1 d;have:=yM.1 h i (yk.2 (zA.1 hi).1);simp only [qif,List.getD,hi,Option.getD_some,zV,zT]at this;exact this.1
def qzo (ts:List (List Int))(cols key:List Int)(lo hi:Int)(i:Nat):Bool:=decide (lo<=(i:Int))&&decide ((i:Int)<hi)&&qlf (ts.getD i []) cols key
def qet (n:Nat)(ts:List (List Int))(cols key:List Int)(lo hi:Int):List Nat:=
 if (qd8 n cols&&decide (key.length=cols.length))=true then (List.range ts.length).filter (qzo ts cols key lo hi) else []
theorem qzp (n:Nat)(ts:List (List Int))(b key:List Int)(lo hi:Int):(qet n ts b key lo hi).length<=ts.length:=by
 unfold qet;split
 ·refine zW (yf _ _) ?_;simp
 ·simp
def RowsIn (F:Nat->Prop)(w:World)(B:Nat)(vL:Value)(ts:List (List Int))(svs:List Value):Prop:=
 svs.length=ts.length/\ ∀(j:Nat) (t:List Int),ts[j]?=some t-> ∃a c,svs[j]?=some (.slice a t.length c)/\t.length<=1073741824/\(t.length<=c/\c<=maxLen)/\
  ∀(k:Nat) (x:Int),t[k]?=some x-> ∃b o,a=some ⟨b,o,none⟩/\F b/\b≠B/\vL.ownBlock≠some b/\b<w.heap.size/\w.cell? ⟨b,o+k,none⟩=some (.int .i64 x)
theorem RowsIn.keep {F:Nat->Prop}{w w':World}{B:Nat}{e:Value}{ts:List (List Int)}{d:List Value}{C:Nat->Prop}(h:RowsIn F w B e ts d)(hK:Keep C w w')(y: ∀b,F b->b<w.heap.size->b≠B->e.ownBlock≠some b->C b):RowsIn F w' B e ts d:=by
 refine⟨h.1,fun j t v=>?_⟩;obtain⟨a,c,s,u,U,q⟩:=h.2 j t v;refine⟨a,c,s,u,U,fun k x R=>?_⟩;obtain⟨b,o,r,p,g,m,l,z⟩:=q k x R;exact⟨b,o,r,p,g,m,zk l hK.size,hK.cell z (y b p l g m)⟩
def qhy (n:Nat)(ts:List (List Int))(t:List Int):Int×Bool×Int:=if qdp n t=true then (match qfe ts t with |some i=>((i:Int),false,0) |none=>((ts.length:Int),true,0)) else (0,false,2)
def qk6 (n:Nat)(ts:List (List Int))(t:List Int):List (List Int):=if (qhy n ts t).2.1=true then ts++ [t] else ts
def qfr (n:Nat)(vD:Value)(c P K:Nat):List Value:= [.int .i64 (n:Int),vD,.int .i64 (c:Int),.map (some P),.map (some K)]
theorem q5l (w:World):Calls prog 96 #[.pointer none] w fun e w'=>e=.returned (.bool false)/\w'=w:=by
 go_enter Tryz.func96,Tryz.ntmps96
 go_wp2;go_ret;exact⟨rfl,rfl⟩
theorem ql6 {w:World}{B n c P K:Nat}{vD:Value}(h:w.heap[B]?=some (.cells (qfr n vD c P K).toArray 171 (0,0))):Calls prog 96 #[.pointer (some ⟨B,0,none⟩)] w fun e w'=>e=.returned (.bool true)/\w'=w:=by
 have d:=qb h 3 _ rfl;have g:=qe h;simp only [zD]at d;clear h;have b: ∀w',(binOp .neq 168 (.map (some P)) (.map none)).run prog w'=.ok (.bool true) w':=fun w'=>run_neq_map_nil w' _ _ _ (some P) Tryz.underlying168
 go_enter Tryz.func96,Tryz.ntmps96
 go_wp2;go_ret;exact⟨rfl,rfl⟩
theorem qzq (w:World):Calls prog 144 #[.pointer none] w fun e w'=>e=.returned (.int .i64 0)/\w'=w:=by
 go_enter Tryz.func144,Tryz.ntmps144
 go_wp2_with fail;refine(q5l w).mono ?_;rintro e b ⟨rfl,rfl⟩;go_wp2_with fail;go_ret;exact⟨rfl,rfl⟩
theorem qzr {w:World}{B n c P K:Nat}{vD:Value}(h:w.heap[B]?=some (.cells (qfr n vD c P K).toArray 171 (0,0))):Calls prog 144 #[.pointer (some ⟨B,0,none⟩)] w fun e w'=>e=.returned (.int .i64 c)/\w'=w:=by
 have d:=qb h 2 _ rfl;have l:=qe h;simp only [zD]at d;refine hd1 ?_ h;clear h;intro b
 go_enter Tryz.func144,Tryz.ntmps144
 go_wp2_with fail;refine(ql6 b.o).mono ?_;rintro e g ⟨rfl,rfl⟩;go_wp2_with fail;go_ret;exact⟨rfl,rfl⟩
theorem qso {w:World}{B n c P K:Nat}{vD:Value}(h:w.heap[B]?=some (.cells (qfr n vD c P K).toArray 171 (0,0)))(m:Nat)(v:Value)(t:List Int)(hs:qat m w v t)(hm:m<=w.heap.size):
  Calls prog 97 #[.pointer (some ⟨B,0,none⟩),v] w fun e w'=>e=.returned (.bool (qdp n t))/\wG w w':=by
 obtain⟨a,cc,rfl,hl,hc,he⟩:=id hs;have hB:=qe h;refine hd3 ?_ h hs he;clear h hs he;intro Xh am Y
 go_enter Tryz.func97,Tryz.ntmps97
 go_wp2_with fail
 go_loopw [9] (fun i wr=> ∃k:Nat,k<=t.length/\i=.int .i64 k/\wG w wr/\(t.take k).all (fun x=>decide (0<=x))=true) (fun i _=>t.length-(intOf i).toNat)
 case atStart=>exact⟨0,wC,rfl,Keep.refl _ _,rfl⟩
 case round=>
  obtain⟨k,hk,rfl,hK,d⟩:=hrel;have ag:=hK.size;by_cases X:k<t.length
  ·obtain⟨x,R⟩: ∃x,t[k]?=some x:=⟨_,zB X⟩;obtain⟨b,o,rfl,hb,y⟩:=Y.o k x R;have y:=hK.cell y trivial;simp only [yB]at y;have al:b<wr.heap.size:=by omega
   have ad:(k:Int)<t.length:=wC
   have ai:(0:Int)<=k:=wC
   by_cases ae:x<0
   ·have z:qdp n t=false:=by
     rw [Bool.eq_false_iff];intro h;simp only [qdp,zV,yM,zT]at h;have:=h.2 x (zH R);omega
    clear d R;refine hd2 ?_ z hK;clear z hK;intro U q;go_wp2_with fail;go_ret;exact⟨by rw [U.o];try rfl,q.o⟩
   ·have r:(t.take (k+1)).all (fun x=>decide (0<=x))=true:=by
     rw [zh,R,all_append,d];simp;omega
    clear d R;refine hd2 ?_ r hK;clear r hK;intro s q;go_wp2_with fail;go_roundw
    case rel=>exact⟨k+1,wC,by go_num,q.o,s.o⟩
    case measure=>simp [intOf];omega
  ·obtain rfl:k=t.length:=by omega
   rw [zi]at d;have u:=hK.heap Xh.o trivial;have c0:=qb u 0 _ rfl;have ah:B<wr.heap.size:=wC
   simp only [zD]at c0;clear u;by_cases g:t.length=n
   ·have l:qdp n t=true:=by simp only [qdp,d,g];simp
    have ab:((t.length:Int)==n)=true:=by simp [g]
    clear d g;refine hd2 ?_ l hK;clear l hK;intro p q;go_wp2_with fail;go_ret;exact⟨by rw [p.o];try rfl,q.o⟩
   ·have l:qdp n t=false:=by simp [qdp,g]
    have ab:((t.length:Int)==n)=false:=by rw [y9];omega
    clear d g;refine hd2 ?_ l hK;clear l hK;intro p q;go_wp2_with fail;go_ret;exact⟨by rw [p.o];try rfl,q.o⟩
end Go.Proofs.R4
