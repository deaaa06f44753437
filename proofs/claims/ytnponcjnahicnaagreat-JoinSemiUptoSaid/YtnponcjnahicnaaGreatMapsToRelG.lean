/- Parts of the proof. -/
import Derived.WalkKit
import Derived.DeepKeys4
import Derived.WideKeyMaps
import Derived.Maps.RangeWalk
import Derived.Test.YtnponcjnahicnaaGreatDataToOwnB
import Derived.Test.YtnponcjnahicnaaGreatHdToKp
import Derived.WideKeyEntry
import Derived.Test.YtnponcjnahicnaaGreatProg
import Derived.Test.YtnponcjnahicnaaGreatHoistToRowC
import Derived.Deep.QuietTactic
import Derived.BigQuiet
import Derived.Laws.StructEq
set_option linter.unusedSimpArgs false
set_option linter.unusedVariables false
open Go.Proofs.Tryz(prog)
open List(all_eq_true ext_getElem? find?_cons find?_eq_none getElem?_cons_succ getElem?_eq_getElem getElem?_inj getElem?_map length_filter_le map_append map_congr_left map_cons map_map map_nil mem_append mem_iff_getElem? mem_map mem_of_getElem? mem_range mem_singleton nodup_append nodup_cons)
namespace Go.Ink
open Go.RowKit Go.WideMaps
section
variable {κ ν : Type}
def qc1 [DecidableEq κ](m:List (κ×ν))(k:κ):Option ν:=(m.find? fun p=>decide (p.1=k)).map (·.2)
def setK [DecidableEq κ](m:List (κ×ν))(k:κ)(v:ν):List (κ×ν):=if k∈m.map (·.1) then m.map fun p=>if p.1=k then (k,v) else p else m++ [(k,v)]
theorem qlo [DecidableEq κ]{m:List (κ×ν)}{k:κ}(h:k∉m.map (·.1)):qc1 m k=none:=by
 unfold qc1;rw [find?_eq_none.2]
 ·rfl
 ·intro p hp;simp only [decide_eq_true_eq];exact fun e=>h (e▸mem_map.2 ⟨p,hp,rfl⟩)
theorem qop [DecidableEq κ]{m:List (κ×ν)}(hn:(m.map (·.1)).Nodup){j:Nat}{p:κ×ν}(h:m[j]?=some p):qc1 m p.1=some p.2:=by
 induction m generalizing j with
 |nil=>simp at h
 |cons q m ih=>
  rw [map_cons,nodup_cons]at hn;cases j with
  |zero=>
   simp at h;subst h;simp [qc1]
  |succ j=>
   simp only [getElem?_cons_succ]at h;have hne:q.1≠p.1:=fun e=>hn.1 (e▸mem_map.2 ⟨p,mem_of_getElem? h,rfl⟩);have:=ih hn.2 h;unfold qc1 at this⊢;rw [find?_cons];simp only [hne,decide_false];exact this
theorem qm0 [DecidableEq κ]{m:List (κ×ν)}{k:κ}{v:ν}(h:k∈m.map (·.1)):(setK m k v).map (·.1)=m.map (·.1):=by
 unfold setK;rw [if_pos h,map_map];refine map_congr_left fun p _=>?_;simp only [Function.comp];split
 ·rename_i e;exact e.symm
 ·rfl
theorem qpp [DecidableEq κ]{m:List (κ×ν)}(hn:(m.map (·.1)).Nodup)(k:κ)(v:ν):((setK m k v).map (·.1)).Nodup:=by
 by_cases h:k∈m.map (·.1)
 ·rw [qm0 h];exact hn
 ·unfold setK;rw [if_neg h,map_append,nodup_append];exact⟨hn,by simp,fun a ha b hb e=>h (by simp at hb;subst hb;rw [←e];exact ha)⟩
def MapIn (P:Program)(K:TypeId)(ek:κ->Value)(ev:ν->Value)(w:World)(b:Nat)(m:List (κ×ν)):Prop:=
 ∃es clock,w.heap[b]?=some (.map es clock)/\es.toList.map (fun e=>(e.key,e.val))=m.map (fun p=>(ek p.1,ev p.2))/\(m.map (·.1)).Nodup/\(∀p,p∈m-> ∃l,keyOf P K (ek p.1)=some l)/\(∀e∈es.toList,e.born<clock)/\(es.toList.map (·.born)).Nodup
variable {P : Program} {T K E : TypeId} {ek : κ -> Value} {ev : ν -> Value}
theorem MapIn.keep {w w':World}{b:Nat}{m:List (κ×ν)}{C:Nat->Prop}(h:MapIn P K ek ev w b m)(hK:Keep C w w')(hC:C b):MapIn P K ek ev w' b m:=by
 obtain⟨es,c,h1,h2⟩:=h;exact⟨es,c,hK.heap h1 hC,h2⟩
theorem qho (w:World):MapIn P K ek ev (w.alloc (.map #[] 0)) w.heap.size ([]:List (κ×ν)):=⟨#[],0,qh w _,rfl,by simp,by simp,by simp,by simp⟩
theorem MapIn.lt {w:World}{b:Nat}{m:List (κ×ν)}(h:MapIn P K ek ev w b m):b<w.heap.size:=by
 obtain⟨es,c,h1,h2⟩:=h;exact qe h1
theorem qtz {w:World}{m:List (κ×ν)}{es:Array MapEntry}(law:KeyLaw P K)(hinj: ∀a b,ek a=ek b->a=b)(h2:es.toList.map (fun e=>(e.key,e.val))=m.map (fun p=>(ek p.1,ev p.2)))(hn:(m.map (·.1)).Nodup)(hok: ∀p,p∈m-> ∃l,keyOf P K (ek p.1)=some l)
  (k:κ) (hk: ∃l,keyOf P K (ek k)=some l):
  ((Instr.findKey K (ek k) es.toList).run P w=.ok none w/\k∉m.map (·.1))∨ ∃(j:Nat) (v:ν) (e:MapEntry),(Instr.findKey K (ek k) es.toList).run P w=.ok (some (j,ev v)) w/\es[j]?=some e/\e.key=ek k/\m[j]?=some (k,v):=by
 obtain⟨l,hl⟩:=hk;have hat: ∀j:Nat,(es.toList[j]?).map (fun e=>(e.key,e.val))=(m[j]?).map (fun p=>(ek p.1,ev p.2)):=fun j=>by
  have:=congrArg (fun l=>l[j]?) h2
  simpa only [getElem?_map]using this
 have hes: ∀e,e∈es.toList-> ∃l,keyOf P K e.key=some l:=fun e he=>by
  obtain⟨j,hj⟩:=mem_iff_getElem?.1 he;have h:=hat j;rw [hj]at h;cases hm:m[j]? with
  |none=>simp [hm] at h
  |some p=>
   rw [hm]at h;simp at h;rw [h.1];exact hok p (mem_of_getElem? hm)
 rcases law.find w hl es.toList hes with ⟨h1,h3⟩ |⟨j,e,h1,h3,h4⟩
 ·refine .inl ⟨h1,fun hmem=>?_⟩;obtain⟨p,hp,rfl⟩:=mem_map.1 hmem;obtain⟨j,hj⟩:=mem_iff_getElem?.1 hp;have h:=hat j;rw [hj]at h;cases he:es.toList[j]? with
  |none=>simp [he] at h
  |some e=>
   rw [he]at h;simp at h;exact h3 e (mem_of_getElem? he) h.1
 ·have h:=hat j;rw [h3]at h;cases hm:m[j]? with
  |none=>simp [hm] at h
  |some p=>
   rw [hm]at h;simp at h;have hpk:p.1=k:=hinj _ _ (by rw [←h.1,h4]);refine .inr ⟨j,p.2,e,by rw [h1,h.2],by simpa using h3,h4,?_⟩;rw [hm,←hpk]
theorem qd1 [DecidableEq κ](hT:P.underlying T=some (.map K E))(law:KeyLaw P K)(hinj: ∀a b,ek a=ek b->a=b){z:Value}(hz: ∀w,(zeroValue E).run P w=.ok z w){w:World}{b:Nat}{m:List (κ×ν)}(h:MapIn P K ek ev w b m)(k:κ)(hk: ∃l,keyOf P K (ek k)=some l)(ok:Bool):
  (Instr.lookup T (.map (some b)) (ek k) ok).run P w=.ok (match qc1 m k with
   |some v=>if ok then .tuple #[ev v,.bool true] else ev v
   |none=>if ok then .tuple #[z,.bool false] else z) w:=by
 obtain⟨es,c,h1,h2,hn,hok,hbc,hbn⟩:=h;have hg:(getObj b).run P w=.ok (.map es c) w:=by simp [getObj,Sem.run,h1]
 obtain⟨l,hl⟩:=hk;have hc:=law.check w es.isEmpty hl;rcases qtz (w:=w) law hinj h2 hn hok k ⟨l,hl⟩ with ⟨hf,hno⟩ |⟨j,v,e,hf,_,_,hj⟩
 ·rw [qlo hno];cases ok<;>simp [Instr.lookup,Sem.run_bind,run_underlying hT,Result.andThen,hg,hc,hf,hz]
 ·have:=qop hn hj;simp only at this;rw [this];cases ok<;>simp [Instr.lookup,Sem.run_bind,run_underlying hT,Result.andThen,hg,hc,hf]
theorem qie [DecidableEq κ](hT:P.underlying T=some (.map K E))(law:KeyLaw P K)(hinj: ∀a b,ek a=ek b->a=b){w:World}{b:Nat}{m:List (κ×ν)}(h:MapIn P K ek ev w b m)(k:κ)(hk: ∃l,keyOf P K (ek k)=some l)(v:ν):
  ∃w',(Instr.mapUpdate T (.map (some b)) (ek k) (ev v)).run P w=.ok () w'/\MapIn P K ek ev w' b (setK m k v)/\Keep (fun j=>j≠b) w w'/\w'.heap.size=w.heap.size:=by
 obtain⟨es,c,h1,h2,hn,hok,hbc,hbn⟩:=h;have hg:(getObj b).run P w=.ok (.map es c) w:=by simp [getObj,Sem.run,h1]
 have hset: ∀o,(setObj b o).run P w=.ok () (w.putObj b o):=by intro o;simp [setObj,Sem.run,h1,World.putObj]
 have hk':=hk;obtain⟨l,hl⟩:=hk;have hc:=fun em=>law.check w em hl;rcases qtz (w:=w) law hinj h2 hn hok k ⟨l,hl⟩ with ⟨hf,hno⟩ |⟨j,v0,e,hf,he,hek,hj⟩
 ·refine⟨w.putObj b (.map (es.push {key:=ek k,val:=ev v,born:=c}) (c+1)),?_,?_,Keep.putObj _ _ _ (by simp),by simp⟩
  ·simp [Instr.mapUpdate,Sem.run_bind,run_underlying hT,Result.andThen,hg,hc,hf,hset]
  ·refine⟨_,_,World.putObj_heap_same (qe h1),?_,qpp hn k v,?_,?_,?_⟩
   ·unfold setK;rw [if_neg hno];simp [h2]
   rotate_left
   ·intro e he;simp only [Array.toList_push,mem_append,mem_singleton]at he;rcases he with he |rfl
    ·have:=hbc e he;omega
    ·simp
   ·simp only [Array.toList_push,map_append,map_cons,map_nil,nodup_append];refine⟨hbn,by simp,fun a ha b hb e=>?_⟩;obtain⟨x,hx,rfl⟩:=mem_map.1 ha;simp only [mem_singleton]at hb;have:=hbc x hx;omega
   ·unfold setK;rw [if_neg hno];intro p hp;rcases mem_append.1 hp with hp |hp
    ·exact hok p hp
    ·simp at hp;subst hp;exact hk'
 ·have hmem:k∈m.map (·.1):=mem_map.2 ⟨_,mem_of_getElem? hj,rfl⟩;have hkey:(es[j]?).map (·.key)=some (ek k):=by rw [he];simp [hek]
  have hsame:=law.stays w hl;refine⟨w.putObj b (.map (es.modify j fun e=>{e with key:=ek k,val:=ev v}) c),?_,?_,Keep.putObj _ _ _ (by simp),by simp⟩
  ·simp [Instr.mapUpdate,Sem.run_bind,run_underlying hT,Result.andThen,hg,hc,hf,hset,hkey,hsame]
  ·have hbm: ∀i:Nat,((es.modify j fun e=>{e with key:=ek k,val:=ev v}).toList[i]?).map (·.born)=(es.toList[i]?).map (·.born):=by
    intro i;simp only [Array.getElem?_toList,Array.getElem?_modify];by_cases hi:j=i
    ·subst hi;rw [he];simp
    ·simp [hi]
   have hbm2:(es.modify j fun e=>{e with key:=ek k,val:=ev v}).toList.map (·.born)=es.toList.map (·.born):=ext_getElem? fun i=>by
    rw [getElem?_map,getElem?_map];exact hbm i
   refine⟨_,_,World.putObj_heap_same (qe h1),?_,qpp hn k v,?_,?_,by rw [hbm2];exact hbn⟩
   rotate_right
   ·intro x hx;have:x.born∈(es.modify j fun e=>{e with key:=ek k,val:=ev v}).toList.map (·.born):=mem_map.2 ⟨x,hx,rfl⟩;rw [hbm2]at this;obtain⟨y,hy,hye⟩:=mem_map.1 this;rw [←hye];exact hbc y hy
   ·unfold setK;rw [if_pos hmem];apply ext_getElem?;intro i;have hi2:=congrArg (fun l=>l[i]?) h2;simp only [getElem?_map]at hi2;simp only [getElem?_map,Array.getElem?_toList,Array.getElem?_modify]at hi2⊢;by_cases hi:j=i
    ·subst hi;rw [hj,he];simp
    ·simp only [hi,if_false];rw [hi2];cases hm:m[i]? with
     |none=>rfl
     |some q=>
      have hq:q.1≠k:=fun e=>by
       have h3:(m.map (·.1))[i]?=some k:=by rw [getElem?_map,hm];simp [e]
       have h4:(m.map (·.1))[j]?=some k:=by rw [getElem?_map,hj];rfl
       exact hi ((getElem?_inj (List.getElem?_eq_some_iff.1 h4).1 hn).1 (h4.trans h3.symm))
      simp [hq]
   ·intro p hp;have:p.1∈(setK m k v).map (·.1):=mem_map.2 ⟨p,hp,rfl⟩;rw [qm0 hmem]at this;obtain⟨q,hq,hqe⟩:=mem_map.1 this;rw [←hqe];exact hok q hq
def MapRange (P:Program)(K:TypeId)(ek:κ->Value)(ev:ν->Value)(w:World)(b r:Nat)(m:List (κ×ν))(left:κ->Bool)(cnt:Nat):Prop:=
 ∃es clock since seen c0,w.heap[b]?=some (.map es clock)/\es.toList.map (fun e=>(e.key,e.val))=m.map (fun p=>(ek p.1,ev p.2))/\(m.map (·.1)).Nodup/\(∀p,p∈m-> ∃l,keyOf P K (ek p.1)=some l)/\(∀e∈es.toList,e.born<clock)/\(es.toList.map (·.born)).Nodup/\
  w.heap[r]?=some (.mapIter (some b) since seen c0)/\(∀e∈es.toList,e.born<since)/\since<=c0/\since<=clock/\(leftOf es seen).size=cnt/\ ∀(j:Nat) e p,es.toList[j]?=some e->m[j]?=some p->left p.1=!seen.contains e.born
theorem MapRange.keep {w w':World}{b r cnt:Nat}{m:List (κ×ν)}{left:κ->Bool}{C:Nat->Prop}(h:MapRange P K ek ev w b r m left cnt)(hK:Keep C w w')(hC:C b)(hr:C r):MapRange P K ek ev w' b r m left cnt:=by
 obtain⟨es,c,s,sn,c0,h1,h2,h3,h4,h5,h6,h7,h8⟩:=h;exact⟨es,c,s,sn,c0,hK.heap h1 hC,h2,h3,h4,h5,h6,hK.heap h7 hr,h8⟩
theorem MapRange.map {w:World}{b r cnt:Nat}{m:List (κ×ν)}{left:κ->Bool}(h:MapRange P K ek ev w b r m left cnt):MapIn P K ek ev w b m:=by
 obtain⟨es,c,s,sn,c0,h1,h2,h3,h4,h5,h6,h7,h8⟩:=h;exact⟨es,c,h1,h2,h3,h4,h5,h6⟩
theorem MapRange.lt {w:World}{b r cnt:Nat}{m:List (κ×ν)}{left:κ->Bool}(h:MapRange P K ek ev w b r m left cnt):r<w.heap.size:=by
 obtain⟨es,c,s,sn,c0,h1,h2,h3,h4,h5,h6,h7,h8⟩:=h;exact qe h7
theorem q0s {w:World}{b:Nat}{m:List (κ×ν)}(hT:P.underlying T=some (.map K E))(h:MapIn P K ek ev w b m):
  ∃w',(Instr.range T (.map (some b))).run P w=.ok (.pointer (some ⟨w.heap.size,0,none⟩)) w'/\MapRange P K ek ev w' b w.heap.size m (fun _=>true) m.length/\Keep (fun _=>True) w w'/\w'.heap.size=w.heap.size+1:=by
 obtain⟨es,c,h1,h2,h3,h4,h5,h6⟩:=h;refine⟨_,run_range_map w T K E b es c hT h1,⟨es,c,c,#[],c,qfm h1 _,h2,h3,h4,h5,h6,qh _ _,h5,Nat.le_refl _,Nat.le_refl _,?_,?_⟩,kAl,by simp⟩
 ·have:=congrArg List.length h2;simp at this;rw [←this];simp [leftOf]
 ·intro j e p _ _;simp
theorem q3x {w:World}{b r cnt:Nat}{m:List (κ×ν)}{left:κ->Bool}[DecidableEq κ](ty:TypeId)(h:MapRange P K ek ev w b r m left cnt):
  (cnt=0/\(∀p∈m,left p.1=false)/\(Instr.next (.pointer (some ⟨r,0,none⟩)) false ty).run P w=.ok (.tuple #[.bool false]) w)∨
  ∃k v w' cnt',(k,v)∈m/\left k=true/\(Instr.next (.pointer (some ⟨r,0,none⟩)) false ty).run P w=.ok (.tuple #[.bool true,ek k,ev v]) w'/\MapRange P K ek ev w' b r m (fun x=>left x&&decide (x≠k)) cnt'/\cnt'<cnt/\Keep (fun j=>j≠r) w w'/\w'.heap.size=w.heap.size/\
   (Instr.entry (.pointer (some ⟨r,0,none⟩))).run P w'=.ok (.tuple #[ek k,ev v]) w':=by
 obtain⟨es,clock,since,seen,c0,hb,h2,hn,hok,hbc,hbn,hr,hold,hsc,hsk,rfl,hl⟩:=h;have hat: ∀j:Nat,(es.toList[j]?).map (fun e=>(e.key,e.val))=(m[j]?).map (fun p=>(ek p.1,ev p.2)):=fun j=>by
  have:=congrArg (fun l=>l[j]?) h2
  simpa only [getElem?_map]using this
 have hlen:es.toList.length=m.length:=by have:=congrArg List.length h2;simpa using this
 have hne:r≠b:=fun e=>by rw [e,hb] at hr;cases hr
 rcases run_next_at (P:=P) w ty r b since c0 seen es clock hr hb hold hsc with ⟨h0,hrun⟩ |⟨e,he,w1,hal,hrun⟩
 ·refine .inl ⟨h0,fun p hp=>?_,hrun⟩;obtain⟨j,hj⟩:=mem_iff_getElem?.1 hp;have hjl:=(List.getElem?_eq_some_iff.1 hj).1;obtain⟨e,he⟩: ∃e,es.toList[j]?=some e:=⟨_,getElem?_eq_getElem (by omega)⟩;rw [hl j e p he hj,all_seen es seen h0 e (mem_of_getElem? he)]
  rfl
 ·obtain⟨hem,hes⟩:=mem_left he;obtain⟨j,hj⟩:=mem_iff_getElem?.1 hem;have hjl:=(List.getElem?_eq_some_iff.1 hj).1;obtain⟨p,hp⟩: ∃p,m[j]?=some p:=⟨_,getElem?_eq_getElem (by omega)⟩;have hkv:=hat j;rw [hj,hp]at hkv;simp only [Option.map_some,Option.some.injEq,Prod.mk.injEq]at hkv;have hr1:w1.heap[r]?=some (.mapIter (some b) since seen c0):=by rcases hal with rfl |rfl<;>exact hr
  have hb1:w1.heap[b]?=some (.map es clock):=by rcases hal with rfl |rfl<;>exact hb
  have hset:=Go.MapKept.heap_set (o':=.mapIter (some b) since (seen.push e.born) clock) hr1;have hb':(Go.ChangeMaps.setBlock w1 r (.mapIter (some b) since (seen.push e.born) clock)).heap[b]?=some (.map es clock):=(hset.2 b (fun e1=>hne e1.symm)).trans hb1;refine .inr ⟨p.1,p.2,_,_,mem_of_getElem? hp,?_,by rw [←hkv.1,←hkv.2];exact hrun,⟨es,clock,since,seen.push e.born,clock,hb',h2,hn,hok,hbc,hbn,hset.1,hold,hsk,hsk,rfl,?_⟩,left_shrinks es seen e he,?_,?_,by rw [←hkv.1,←hkv.2];exact run_entry_at _ r b since seen es clock e hset.1 hb' hem hbn⟩
  ·rw [hl j e p hj hp,hes];rfl
  ·intro i x q hx hq;show(left q.1&&decide (q.1≠p.1))=_;rw [hl i x q hx hq,contains_push];by_cases hij:i=j
   ·subst hij;rw [hj]at hx;cases hx;rw [hp]at hq;cases hq;simp
   ·have h1:q.1≠p.1:=fun e1=>by
     have q1:(m.map (·.1))[i]?=some q.1:=by rw [getElem?_map,hq];rfl
     have q2:(m.map (·.1))[j]?=some q.1:=by rw [getElem?_map,hp,e1];rfl
     exact hij ((getElem?_inj (List.getElem?_eq_some_iff.1 q1).1 hn).1 (q1.trans q2.symm))
    have h3:(x.born==e.born)=false:=by
     rw [beq_eq_false_iff_ne];intro e1;have q1:(es.toList.map (·.born))[i]?=some x.born:=by rw [getElem?_map,hx];rfl
     have q2:(es.toList.map (·.born))[j]?=some x.born:=by rw [getElem?_map,hj,e1];rfl
     exact hij ((getElem?_inj (List.getElem?_eq_some_iff.1 q1).1 hbn).1 (q1.trans q2.symm))
    simp [h1,h3]
  ·rcases hal with rfl |rfl<;>exact⟨rfl,rfl,rfl,by simp [Go.ChangeMaps.setBlock],fun i _ hi=>hset.2 i hi⟩
  ·rcases hal with rfl |rfl<;>simp [Go.ChangeMaps.setBlock]
variable {ops : Array Oper} {rest : List Oper} {o : Oper} {a : Act} {Q : Exit -> Act -> World -> Prop}
theorem qya {w:World}{b:Nat}{m:List (κ×ν)}(hg:o.guard=none)(x:Operand)(t:TypeId)(hop:o.op=Op.range t x)(hT:P.underlying t=some (.map K E))(hx:a.eval x=.map (some b))(h:MapIn P K ek ev w b m)
  (hK: ∀w',MapRange P K ek ev w' b w.heap.size m (fun _=>true) m.length->Keep (fun _=>True) w w'->w'.heap.size=w.heap.size+1->wpList P ops Q rest (a.put o.dst (.pointer (some ⟨w.heap.size,0,none⟩))) w'):
  wpList P ops Q (o::rest) a w:=by
 refine wpList_plain hg fun K' hK'=>?_;obtain⟨w',hrun,r1,r2,r3⟩:=q0s hT h;unfold Oper.wp;simp [execOp,hop,hx,hrun,Result.andThen];exact hK' _ _ (hK w' r1 r2 r3)
theorem q0t {w:World}{b r cnt:Nat}{m:List (κ×ν)}{left:κ->Bool}[DecidableEq κ](hg:o.guard=none)(it:Operand)(hop:o.op=Op.next it false)(hit:a.eval it=.pointer (some ⟨r,0,none⟩))(h:MapRange P K ek ev w b r m left cnt)
  (hDone:cnt=0->(∀p∈m,left p.1=false)->wpList P ops Q rest (a.put o.dst (.tuple #[.bool false])) w)
  (hMore: ∀(k:κ) (v:ν) (w':World) (cnt':Nat),(k,v)∈m->left k=true->MapRange P K ek ev w' b r m (fun x=>left x&&decide (x≠k)) cnt'->cnt'<cnt->Keep (fun j=>j≠r) w w'->w'.heap.size=w.heap.size->
   (Instr.entry (.pointer (some ⟨r,0,none⟩))).run P w'=.ok (.tuple #[ek k,ev v]) w'->wpList P ops Q rest (a.put o.dst (.tuple #[.bool true,ek k,ev v])) w'):
  wpList P ops Q (o::rest) a w:=by
 refine wpList_plain hg fun K' hK'=>?_;unfold Oper.wp;rcases q3x o.type h with ⟨h0,hl,hrun⟩ |⟨k,v,w',cnt',h1,h2,hrun,h3,h4,h5,h6,h7⟩
 ·simp [execOp,hop,hit,hrun,Result.andThen];exact hK' _ _ (hDone h0 hl)
 ·simp [execOp,hop,hit,hrun,Result.andThen];exact hK' _ _ (hMore k v w' cnt' h1 h2 h3 h4 h5 h6 h7)
end
section
variable {κ ν : Type} {P : Program} {T K E : TypeId} {ek : κ -> Value} {ev : ν -> Value}
theorem qyb [DecidableEq κ](hT:P.underlying T=some (.map K E))(law:KeyLaw P K)(hinj: ∀a b,ek a=ek b->a=b){z:Value}(hz: ∀w:World,(zeroValue E).run P w=.ok z w){w:World}{b:Nat}{m:List (κ×ν)}(h:MapIn P K ek ev w b m)(hsz:m.length<=maxLen)(k:κ)(hk: ∃l,keyOf P K (ek k)=some l):
  ∃(v0:Value) (st:Int) (w1:World),(Instr.mapEntry T (.map (some b)) (ek k)).run P w=.ok (.tuple #[v0,.int .i64 st]) w1/\((∃v,(k,v)∈m/\v0=ev v)∨(k∉m.map (·.1)/\v0=z))/\
   Keep (fun j=>j≠b) w w1/\w1.heap.size=w.heap.size/\
   ∀(w2:World),w2.heap[b]?=w1.heap[b]?-> ∀v:ν,∃w3,(Instr.entryStore T (.map (some b)) (.int .i64 st) (ev v)).run P w2=.ok () w3/\MapIn P K ek ev w3 b (setK m k v)/\Keep (fun j=>j≠b) w2 w3/\w3.heap.size=w2.heap.size:=by
 obtain⟨es,c,h1,h2,hn,hok,hbc,hbn⟩:=id h;obtain⟨l,hl⟩:=id hk;have hat: ∀j:Nat,(es.toList[j]?).map (fun e=>(e.key,e.val))=(m[j]?).map (fun p=>(ek p.1,ev p.2)):=fun j=>by
  have:=congrArg (fun l=>l[j]?) h2
  simpa only [getElem?_map]using this
 have hlen:es.toList.length=m.length:=by have:=congrArg List.length h2;simpa using this
 have hmem: ∀e,e∈es.toList-> ∃p,p∈m/\e.key=ek p.1/\e.val=ev p.2:=fun e he=>by
  obtain⟨j,hj⟩:=mem_iff_getElem?.1 he;have hjl:=(List.getElem?_eq_some_iff.1 hj).1;obtain⟨p,hp⟩: ∃p,m[j]?=some p:=⟨_,getElem?_eq_getElem (by omega)⟩;have:=hat j;rw [hj,hp]at this;simp only [Option.map_some,Option.some.injEq,Prod.mk.injEq]at this;exact⟨p,mem_of_getElem? hp,this.1,this.2⟩
 have hback: ∀p,p∈m-> ∃e,e∈es.toList/\e.key=ek p.1/\e.val=ev p.2:=fun p hp=>by
  obtain⟨j,hj⟩:=mem_iff_getElem?.1 hp;have hjl:=(List.getElem?_eq_some_iff.1 hj).1;obtain⟨e,he⟩: ∃e,es.toList[j]?=some e:=⟨_,getElem?_eq_getElem (by omega)⟩;have:=hat j;rw [hj,he]at this;simp only [Option.map_some,Option.some.injEq,Prod.mk.injEq]at this;exact⟨e,mem_of_getElem? he,this.1,this.2⟩
 have hkeys:es.toList.map (·.key)=(m.map (·.1)).map ek:=by
  have:=congrArg (List.map Prod.fst) h2
  simpa [map_map,Function.comp_def]using this
 have hfit:Go.WideElems.Fit (H:=Unit) P K (fun _=>some (.nil,[])) es c:=by
  refine⟨by rw [←Array.length_toList,hlen];exact hsz,⟨hbc,hbn,?_⟩,fun x hx=>?_⟩
  ·rw [hkeys];exact List.Pairwise.map ek (fun a b hne e=>hne (hinj a b e)) hn
  ·obtain⟨p,hp,e1,_⟩:=hmem x hx;obtain⟨l,hl⟩:=hok p hp;exact⟨(l,.nil),by simp [Go.WideElems.rd,e1,hl]⟩
 obtain⟨v0,st,es1,c1,hrun,hv,hst⟩:=Go.WideElems.entry_then_store (P:=P) law hT hz h1 hfit hl;have hset: ∀(u:World) (o:Obj),b<u.heap.size->(Go.ChangeMaps.setBlock u b o).heap[b]?=some o/\Keep (fun j=>j≠b) u (Go.ChangeMaps.setBlock u b o)/\(Go.ChangeMaps.setBlock u b o).heap.size=u.heap.size:=fun u o hb=>by
  refine⟨by simp [Go.ChangeMaps.setBlock,hb],⟨rfl,rfl,rfl,by simp [Go.ChangeMaps.setBlock],fun i _ hi=>?_⟩,by simp [Go.ChangeMaps.setBlock]⟩;simp only [Go.ChangeMaps.setBlock];rw [Array.getElem?_setIfInBounds_ne (fun e=>hi e.symm)]
 have hb:=qe h1;refine⟨v0,st,_,hrun,?_,(hset w _ hb).2.1,(hset w _ hb).2.2,fun w2 hw2 v=>?_⟩
 ·rcases hv with ⟨e0,he0,hek,hev⟩ |⟨hno,hz0⟩
  ·obtain⟨p,hp,e1,e2⟩:=hmem e0 he0;have:p.1=k:=hinj _ _ (by rw [←e1,hek]);exact .inl ⟨p.2,by rw [←this];exact hp,by rw [hev,e2]⟩
  ·refine .inr ⟨fun hkm=>?_,hz0⟩;obtain⟨p,hp,rfl⟩:=mem_map.1 hkm;obtain⟨e,he,e1,_⟩:=hback p hp;exact hno e he e1
 ·rw [(hset w _ hb).1]at hw2;obtain⟨es',c',hr1,hr2⟩:=hst w2 (ev v) hw2;obtain⟨w',hr3,hM,_,_⟩:=qie hT law hinj h k hk v;rw [hr2]at hr3;cases hr3;obtain⟨es2,c2,q1,q2,q3,q4,q5,q6⟩:=hM;rw [(hset w _ hb).1]at q1;cases q1;have hb2:=qe hw2;exact⟨_,hr1,⟨_,_,(hset w2 _ hb2).1,q2,q3,q4,q5,q6⟩,(hset w2 _ hb2).2.1,(hset w2 _ hb2).2.2⟩
end
end Go.Ink
namespace Go.Ink
open Go.RowKit
structure qf8 (Γ:Type) where
 inv:Γ->World->Prop
 free:Γ->Nat->Prop
 istep:Γ->World->Γ->World->Prop
 bstep:Γ->Nat->Γ->Prop
 ifree: ∀{γ X γ' Y},istep γ X γ' Y->Keep (free γ) X Y
 inew: ∀{γ X γ' Y},istep γ X γ' Y-> ∀b,b<X.heap.size->free γ b->free γ' b
 bnew: ∀{γ n γ'},bstep γ n γ'-> ∀b,b<n->free γ b->free γ' b
 bmono: ∀{γ n n0 γ'},n0<=n->bstep γ n γ'->bstep γ n0 γ'
 invk: ∀{γ X Y},inv γ X->Keep (fun b=> ¬free γ b) X Y->inv γ Y
variable {Γ : Type}
def qhp (Sy:qf8 Γ)(V:World->Prop)(J Jx:Nat->Γ->World->Prop)(k:Nat)(γ:Γ)(X:World)(e:Ending)(Y:World):Prop:=
 ∃γ',Sy.inv γ' Y/\V Y/\Sy.bstep γ X.heap.size γ'/\X.heap.size<=Y.heap.size/\((e=.returned (.bool true)/\J (k+1) γ' Y)∨(e=.returned (.bool false)/\Jx k γ' Y))
def qpq (P:Program)(g:Nat)(lb:Array Value)(Sy:qf8 Γ)(N:Γ->Nat)(A:Γ->Nat->Γ->Nat->World->Array Value->Prop)(V:World->Prop)(U:Nat->Prop):Prop:=
 ∀(l:Nat) (J Jx:Nat->Γ->World->Prop) (W:World) (γ0:Γ),l<W.heap.size->Sy.inv γ0 W->V W->(∀b,U b->Sy.free γ0 b)->
  (∀k γ X γ' Y,J k γ X->Sy.istep γ X γ' Y->J k γ' Y)->
  (∀k γ X γ' Y,Jx k γ X->Sy.istep γ X γ' Y->Jx k γ' Y)->
  (∀k γ X0 X args,k<N γ0->J k γ X0->Sy.istep γ X0 γ X->Sy.inv γ X->V X->W.heap.size<=X0.heap.size->A γ0 k γ X0.heap.size X args->YieldAt Fence.wide 0 P l args X (qhp Sy V J Jx k γ X))->
  J 0 γ0 W->
  Calls P g (#[.func (.yield l) #[] #[]]++lb) W fun e W'=>(∃v,e=.returned v)/\W.heap.size<=W'.heap.size/\
   ∃γ',Sy.inv γ' W'/\V W'/\(J (N γ0) γ' W'∨ ∃k,k<N γ0/\Jx k γ' W')
def qfa (Sy:qf8 Γ)(B l n:Nat)(V:World->Prop)(γ:Γ)(Y0 Y:World)(R:Γ->Prop):Prop:=
 ∃γ',Sy.inv γ' Y/\V Y/\Sy.bstep γ n γ'/\Keep (fun b=>B<=b/\b<=l) Y0 Y/\R γ'
def q62 (Sy:qf8 Γ)(B l n:Nat)(V:World->Prop)(I:Nat->Γ->World->Prop)(Ix:Code->Nat->Γ->World->Prop)(k:Nat)(γ:Γ)(Y0:World):Exit->Act->World->Prop
 |.normal,_,Y=>qfa Sy B l n V γ Y0 Y fun γ'=>I (k+1) γ' Y
 |.ret,_,Y=>qfa Sy B l n V γ Y0 Y fun γ'=>Ix .ret k γ' Y
 |.exit id,_,Y=>qfa Sy B l n V γ Y0 Y fun γ'=>Ix (.exit id) k γ' Y
 |.goto t,_,Y=>qfa Sy B l n V γ Y0 Y fun γ'=>Ix (.goto t) k γ' Y
 |.panic _,_,_=>False
 |.outgrown,_,_=>False
def qw4 (Sy:qf8 Γ)(P:Program)(l B:Nat)(body:Code)(V:World->Prop)(I:Nat->Γ->World->Prop)(Ix:Code->Nat->Γ->World->Prop)(k:Nat)(γ:Γ)(X:World)(a₁:Act)(X₁:World):Prop:=
 Keep (fun b=>b<X.heap.size) X X₁/\
  ∀Y,Keep (fun b=>b≠l) X₁ Y->Y.heap.size=X₁.heap.size->(∃r,Y.heap[l]?=some (.loop r))->body.wpIn (inR l) 0 P (q62 Sy B l X.heap.size V I Ix k γ Y) a₁ Y
theorem q0u {P:Program}{fn:FuncId}{l B:Nat}{rec:LoopState->Option Code->Loop}{tmps0:Array Value}{ps:Array Tmp}{assign body:Code}{df:Nat}(Sy:qf8 Γ)
  (hrec:rec=fun st pe=>{state:=st,pending:=pe,fn:=fn,tmps:=tmps0,params:=ps,assign:=assign,body:=body,defers:=df})
  (hlB:B<=l) {args:Array Value} (hps:args.size=ps.size) {V:World->Prop} (hVst: ∀X Y,V X->Keep (fun b=>b<B) X Y->V Y)
  {I:Nat->Γ->World->Prop} {Ix:Code->Nat->Γ->World->Prop}
  (hI: ∀k γ X Y,I k γ X->Keep (fun b=>b≠l) X Y->I k γ Y) (hIx: ∀c k γ X Y,Ix c k γ X->Keep (fun b=>b≠l) X Y->Ix c k γ Y)
  (X:World) (k:Nat) (γ:Γ) (hfl:Sy.free γ l) (hl:X.heap[l]?=some (.loop (rec .ready none)))
  (hround:assign.wpIn (inR l) 0 P (Exit.then (qw4 Sy P l B body V I Ix k γ X) (fun _ _ _=>False)) {tmps:=(ps.zip args).foldl (fun t (p,v)=>t.setIfInBounds p v) tmps0,defers:= []} X):
  YieldAt Fence.wide 0 P l args X (qhp Sy V
   (fun k γ W=>I k γ W/\Sy.free γ l/\W.heap[l]?=some (.loop (rec .ready none)))
   (fun k γ W=> ∃c,Ix c k γ W/\Sy.free γ l/\W.heap[l]?=some (.loop (rec .done (some c)))) k γ X):=by
 have hy:=run_yield (P:=P) (args:=args) hl (by rw [hrec];exact hps);rw [hrec]at hy;have hllt:=qe hl;refine⟨fn,_,assign,body,hy,roundIn_of_wpIn (F:=Fence.wide) trivial (wpIn_mono hround ?_)⟩;intro e a₁ X₁ he;cases e with
 |normal=>
  obtain⟨hk1,hb⟩:=he;have hl1':X₁.heap[l]?=some (.loop (rec .ready none)):=hk1.heap hl hllt;refine⟨_,run_beginRound hl1' (by rw [hrec]),?_⟩;have hl2:(X₁.putObj l (.loop {rec .ready none with state:=.busy})).heap[l]?=some (.loop {rec .ready none with state:=.busy}):=World.putObj_heap_same (qe hl1');have hkY:Keep (fun b=>b≠l) X₁ (X₁.putObj l (.loop {rec .ready none with state:=.busy})):=Keep.putObj _ _ _ (by simp);refine wpIn_mono (hb _ hkY (by simp) ⟨_,hl2⟩) ?_;generalize hY0:X₁.putObj l (.loop {rec .ready none with state:=.busy})=Y0 at hl2 hkY;clear hY0 hb;have fin: ∀(jump:Option Code) (Y:World) (R:Γ->Prop),qfa Sy B l X.heap.size V γ Y0 Y R->
    ∃Y',(Instr.endRound l jump).run P Y=.ok (.bool jump.isNone) Y'/\Y'.heap[l]?=some (.loop (rec (if jump.isNone then .ready else .done) jump))/\Keep (fun b=>b≠l) Y Y'/\
    ∃γ',Sy.inv γ' Y'/\V Y'/\Sy.bstep γ X.heap.size γ'/\X.heap.size<=Y'.heap.size/\Sy.free γ' l/\R γ':=by
   rintro jump Y R ⟨γ',hinv,hV,hbs,hK,hR⟩;have hl3:Y.heap[l]?=some (.loop {rec .ready none with state:=.busy}):=hK.heap hl2 ⟨hlB,Nat.le_refl _⟩;have:=run_endRound (P:=P) jump hl3;have hfl':=Sy.bnew hbs l hllt hfl;refine⟨_,this,?_,Keep.putObj _ _ _ (by simp),γ',Sy.invk hinv (Keep.putObj _ _ _ (by simpa using hfl')),hVst _ _ hV (Keep.putObj _ _ _ (by simp;omega)),hbs,?_,hfl',hR⟩
   ·rw [World.putObj_heap_same (qe hl3)];subst hrec;rfl
   ·have h1:=hk1.size;have h2:=hkY.size;have h3:=hK.size;simp;omega
  rintro e a3 Y hp;cases e with
  |normal=>
   obtain⟨Y',hr,hl',hKl,γ',hinv,hV,hbs,hz,hf,hR⟩:=fin none Y _ hp;exact⟨_,_,hr,γ',hinv,hV,hbs,hz,.inl ⟨rfl,hI _ _ _ _ hR hKl,hf,hl'⟩⟩
  |ret=>
   obtain⟨Y',hr,hl',hKl,γ',hinv,hV,hbs,hz,hf,hR⟩:=fin (some .ret) Y _ hp;exact⟨_,_,hr,γ',hinv,hV,hbs,hz,.inr ⟨rfl,.ret,hIx _ _ _ _ _ hR hKl,hf,hl'⟩⟩
  |exit id=>
   obtain⟨Y',hr,hl',hKl,γ',hinv,hV,hbs,hz,hf,hR⟩:=fin (some (.exit id)) Y _ hp;exact⟨_,_,hr,γ',hinv,hV,hbs,hz,.inr ⟨rfl,.exit id,hIx _ _ _ _ _ hR hKl,hf,hl'⟩⟩
  |goto t=>
   obtain⟨Y',hr,hl',hKl,γ',hinv,hV,hbs,hz,hf,hR⟩:=fin (some (.goto t)) Y _ hp;exact⟨_,_,hr,γ',hinv,hV,hbs,hz,.inr ⟨rfl,.goto t,hIx _ _ _ _ _ hR hKl,hf,hl'⟩⟩
  |panic ch=>exact hp.elim
  |outgrown=>exact hp.elim
 |ret=>exact he.elim
 |exit id=>exact he.elim
 |goto t=>exact he.elim
 |panic c=>exact he.elim
 |outgrown=>exact he.elim
theorem qm1 {P:Program}{g:Operand}{ps:Array Tmp}{assign body:Code}{Q:Exit->Act->World->Prop}{a:Act}{w:World}(Sy:qf8 Γ)(γ0:Γ)
  {gf:Nat} {lb:Array Value} (hg:a.eval g=.func (.func gf) #[] lb) (eg: ∀args w,(callFunc gf args).run P w=.ok (.enter gf args) w)
  {N:Γ->Nat} {A:Γ->Nat->Γ->Nat->World->Array Value->Prop} {V:World->Prop} {U:Nat->Prop} (hit:qpq P gf lb Sy N A V U) (hU: ∀b,U b->Sy.free γ0 b) (hps: ∀γ0 k γ n X args,A γ0 k γ n X args->args.size=ps.size)
  (hinv0:Sy.inv γ0 w) (hfree: ∀b,w.heap.size<=b->Sy.free γ0 b) (hV0:V w) (hVst: ∀X Y,V X->Keep (fun b=>b<w.heap.size) X Y->V Y)
  (I:Nat->Γ->World->Prop) (Ix:Code->Nat->Γ->World->Prop)
  (hI: ∀k γ X Y,I k γ X->Keep (fun b=>b<w.heap.size∨w.heap.size+2<=b) X Y->I k γ Y) (hIx: ∀c k γ X Y,Ix c k γ X->Keep (fun b=>b<w.heap.size∨w.heap.size+2<=b) X Y->Ix c k γ Y)
  (hIs: ∀k γ X γ' Y,I k γ X->Sy.istep γ X γ' Y->I k γ' Y) (hIxs: ∀c k γ X γ' Y,Ix c k γ X->Sy.istep γ X γ' Y->Ix c k γ' Y)
  (h0:I 0 γ0 w)
  (hround: ∀l k γ X0 X args,w.heap.size<=l->l<X0.heap.size->(Sy.free γ l/\Sy.free γ w.heap.size/\l=w.heap.size+1)->k<N γ0->I k γ X0->Sy.istep γ X0 γ X->Sy.inv γ X->V X->w.heap.size+2<=X0.heap.size->A γ0 k γ X0.heap.size X args->assign.wpIn (inR l) 0 P (Exit.then (qw4 Sy P l w.heap.size body V I Ix k γ X) (fun _ _ _=>False)) {tmps:=(ps.zip args).foldl (fun t (p,v)=>t.setIfInBounds p v) a.tmps,defers:= []} X)
  (hdone: ∀D γ W,(w.heap.size<=D/\D<=w.heap.size)->Sy.free γ D->W.heap[D]?=some (.deferred (some []))->w.heap.size<=W.heap.size->I (N γ0) γ W->Sy.inv γ W->V W->Q .normal {a with defers:={target:=.collected D,args:= #[]}::a.defers} W)
  (hstop: ∀D c k γ W,(w.heap.size<=D/\D<=w.heap.size)->Sy.free γ D->W.heap[D]?=some (.deferred (some []))->w.heap.size<=W.heap.size->k<N γ0->Ix c k γ W->Sy.inv γ W->V W->c.wpIn Fence.wide 0 P Q {a with defers:={target:=.collected D,args:= #[]}::a.defers} W):
  (Code.rangeFunc g ps assign body).wpIn Fence.wide 0 P Q a w:=by
 obtain⟨W1,hW1⟩:=ex ((w.alloc (.deferred (some []))).alloc (.deferred (some [])));have hs1:W1.heap.size=w.heap.size+2:=by rw [←hW1];simp
 have hD1:W1.heap[w.heap.size]?=some (.deferred (some [])):=by
  rw [←hW1];exact(Below.heap_alloc _ _ _ (by simp)).trans (World.alloc_heap_new w _)
 have hk1:Keep (fun _=>True) w W1:=by rw [←hW1];exact(Keep.alloc _ w _).trans kAl
 refine wpIn_rangeFunc ?_;intro fn _;obtain⟨W2,hrun,hkW,hz2,hl2,hkl⟩: ∃W1',(Instr.enterLoop fn a.tmps ps assign body Fence.wide.round).run P w=.ok (w.heap.size+1,[{target:=.collected w.heap.size,args:= #[]}]) W1'/\Keep (fun _=>True) w W1'/\W1'.heap.size=W1.heap.size/\
    W1'.heap[w.heap.size+1]?=some (.loop {state:=.ready,pending:=none,fn:=fn,tmps:=a.tmps,params:=ps,assign:=assign,body:=body,defers:=w.heap.size})/\Keep (fun b=>b≠w.heap.size+1) W1 W1':=by
  refine⟨_,run_enterLoop_outer _ _ _ _ _,(Keep.alloc _ w _).trans kAl,by rw [hs1];simp,?_,?_⟩
  ·have:=World.alloc_heap_new (w.alloc (.deferred (some []))) (.loop {state:=.ready,pending:=none,fn:=fn,tmps:=a.tmps,params:=ps,assign:=assign,body:=body,defers:=w.heap.size})
   rwa [World.size_alloc] at this
  ·rw [←hW1];refine⟨rfl,rfl,rfl,by simp,fun k hk hC=>?_⟩;have hk':k<(w.alloc (.deferred (some []))).heap.size:=by simp at hk⊢;omega
   rw [Below.heap_alloc _ _ _ hk',Below.heap_alloc _ _ _ hk']
 refine⟨w.heap.size+1,_,W2,{target:=.fn (.func gf) lb,args:= #[.func (.yield (w.heap.size+1)) #[] #[]]},W2,gf,#[.func (.yield (w.heap.size+1)) #[] #[]]++lb,W2,hrun,?_,fun f' _=>trivial,?_,fun h=>by have hFd:Fence.wide.depth=none:=rfl;simp [hFd] at h,?_⟩
 ·simp only [resolve,hg];simp [go_sem]
 ·simp [invoke,go_sem,eg]
 ·have hD2:W2.heap[w.heap.size]?=some (.deferred (some [])):=hkl.heap hD1 (by omega);have hcalls:=hit (w.heap.size+1)
   (fun k γ W=>(I k γ W/\Sy.free γ w.heap.size/\W.heap[w.heap.size]?=some (.deferred (some [])))/\Sy.free γ (w.heap.size+1)/\W.heap[w.heap.size+1]?=some (.loop {state:=.ready,pending:=none,fn:=fn,tmps:=a.tmps,params:=ps,assign:=assign,body:=body,defers:=w.heap.size}))
   (fun k γ W=> ∃c,(Ix c k γ W/\Sy.free γ w.heap.size/\W.heap[w.heap.size]?=some (.deferred (some [])))/\Sy.free γ (w.heap.size+1)/\W.heap[w.heap.size+1]?=some (.loop {state:=.done,pending:=some c,fn:=fn,tmps:=a.tmps,params:=ps,assign:=assign,body:=body,defers:=w.heap.size}))
   W2 γ0 (by omega) (Sy.invk hinv0 (hkW.mono fun _ _ _=>trivial)) (hVst _ _ hV0 (hkW.mono fun _ _ _=>trivial)) hU
   (fun k γ X γ' Y h hs=>⟨⟨hIs k γ X γ' Y h.1.1 hs,Sy.inew hs _ (qe h.1.2.2) h.1.2.1,(Sy.ifree hs).heap h.1.2.2 h.1.2.1⟩,Sy.inew hs _ (qe h.2.2) h.2.1,(Sy.ifree hs).heap h.2.2 h.2.1⟩)
   (fun k γ X γ' Y h hs=>by
    obtain⟨c,h1,h2,h3⟩:=h;exact⟨c,⟨hIxs c k γ X γ' Y h1.1 hs,Sy.inew hs _ (qe h1.2.2) h1.2.1,(Sy.ifree hs).heap h1.2.2 h1.2.1⟩,Sy.inew hs _ (qe h3) h2,(Sy.ifree hs).heap h3 h2⟩)
   (fun k γ X0 X args hk h00 hist hinv hV hz hA=>by
    have h:(I k γ X/\Sy.free γ w.heap.size/\X.heap[w.heap.size]?=some (.deferred (some [])))/\Sy.free γ (w.heap.size+1)/\X.heap[w.heap.size+1]?=some (.loop {state:=.ready,pending:=none,fn:=fn,tmps:=a.tmps,params:=ps,assign:=assign,body:=body,defers:=w.heap.size}):=⟨⟨hIs k γ X0 γ X h00.1.1 hist,h00.1.2.1,(Sy.ifree hist).heap h00.1.2.2 h00.1.2.1⟩,h00.2.1,(Sy.ifree hist).heap h00.2.2 h00.2.1⟩;have:=q0u (P:=P) (fn:=fn) (l:=w.heap.size+1) (B:=w.heap.size) (tmps0:=a.tmps) (ps:=ps) (assign:=assign) (body:=body) (df:=w.heap.size) Sy
     (rec:=fun st pe=>{state:=st,pending:=pe,fn:=fn,tmps:=a.tmps,params:=ps,assign:=assign,body:=body,defers:=w.heap.size}) rfl (by omega) (hps _ _ _ _ _ _ hA) hVst
     (I:=fun k γ W=>I k γ W/\Sy.free γ w.heap.size/\W.heap[w.heap.size]?=some (.deferred (some [])))
     (Ix:=fun c k γ W=>Ix c k γ W/\Sy.free γ w.heap.size/\W.heap[w.heap.size]?=some (.deferred (some [])))
     (fun k γ X Y h hK=>⟨hI k γ X Y h.1 (hK.mono fun b _ h=>by omega),h.2.1,hK.heap h.2.2 (by omega)⟩)
     (fun c k γ X Y h hK=>⟨hIx c k γ X Y h.1 (hK.mono fun b _ h=>by omega),h.2.1,hK.heap h.2.2 (by omega)⟩)
     X k γ h.2.1 h.2.2 (by
      refine wpIn_mono (hround (w.heap.size+1) k γ X0 X args (by omega) (qe h00.2.2) ⟨h.2.1,h.1.2.1,rfl⟩ hk h00.1.1 hist hinv hV (by omega) hA) ?_;intro e a₁ X₁ he;cases e with
      |normal=>
       obtain⟨hk1,hb⟩:=he;refine⟨hk1,fun Y hY hs hl=>wpIn_mono (hb Y hY hs hl) ?_⟩;have hY0:Y.heap[w.heap.size]?=some (.deferred (some [])):=hY.heap (hk1.heap h.1.2.2 (by have:=qe h.1.2.2;omega)) (by omega);have conv: ∀(R:Γ->Prop) (Z:World),qfa Sy w.heap.size (w.heap.size+1) X.heap.size V γ Y Z R->qfa Sy w.heap.size (w.heap.size+1) X.heap.size V γ Y Z (fun γ'=>R γ'/\Sy.free γ' w.heap.size/\Z.heap[w.heap.size]?=some (.deferred (some []))):=by
        rintro R Z ⟨γ',q1,q2,q3,q4,q5⟩;exact⟨γ',q1,q2,q3,q4,q5,Sy.bnew q3 _ (qe h.1.2.2) h.1.2.1,q4.heap hY0 ⟨Nat.le_refl _,by omega⟩⟩
       rintro e' a' Z hz;cases e' with
       |normal=>exact conv _ _ hz
       |ret=>exact conv _ _ hz
       |exit id=>exact conv _ _ hz
       |goto t=>exact conv _ _ hz
       |panic c=>exact hz.elim
       |outgrown=>exact hz.elim
      |ret=>exact he.elim
      |exit id=>exact he.elim
      |goto t=>exact he.elim
      |panic c=>exact he.elim
      |outgrown=>exact he.elim)
    exact this)
   ⟨⟨hI _ _ _ _ (hI _ _ _ _ h0 (hk1.mono fun _ _ _=>trivial)) (hkl.mono fun b _ h=>by omega),hfree _ (Nat.le_refl _),hD2⟩,hfree _ (by omega),hl2⟩
  have hc2:Calls P gf (#[.func (.yield (w.heap.size+1)) #[] #[]]++lb) W2 (rangePost Fence.wide 0 P (w.heap.size+1) Q {a with defers:= [{target:=.collected w.heap.size,args:= #[]}]++a.defers}):=by
   refine hcalls.mono ?_;rintro e W3 ⟨⟨v,rfl⟩,hs2,γ',hinv,hV2,hJ |⟨k,hk,c,hx,hf,hh⟩⟩
   ·obtain⟨⟨hi,hfD,hD⟩,hf,hh⟩:=hJ;refine⟨none,_,run_endLoop (P:=P) hh (by simp),hdone _ γ' _ ⟨Nat.le_refl _,Nat.le_refl _⟩ hfD ?_ (by simp;omega) (hI _ _ _ _ hi (Keep.putObj _ _ _ (by omega))) (Sy.invk hinv (Keep.putObj _ _ _ (by simpa using hf))) (hVst _ _ hV2 (Keep.putObj _ _ _ (by omega)))⟩;rw [World.putObj_heap_other (by omega)];exact hD
   ·refine⟨some c,_,run_endLoop (P:=P) hh (by simp),hstop _ c k γ' _ ⟨Nat.le_refl _,Nat.le_refl _⟩ hx.2.1 ?_ (by simp;omega) hk (hIx _ _ _ _ _ hx.1 (Keep.putObj _ _ _ (by omega))) (Sy.invk hinv (Keep.putObj _ _ _ (by simpa using hf))) (hVst _ _ hV2 (Keep.putObj _ _ _ (by omega)))⟩;rw [World.putObj_heap_other (by omega)];exact hx.2.2
  exact callsIn_wide.2 hc2
end Go.Ink
namespace Go.Proofs.R4
open Go.RowKit Go.Ink
attribute [local go_sem] Oper.semAt_some
def ic (x:Int):List Value:= [.int .i64 x]
theorem qm2 (l:List Int):l.flatMap ic=l.map (.int .i64):=by
 induction l with
 |nil=>rfl
 |cons a l ih=>simp [ic,ih]
theorem qm3:qce prog 86 3 1 8:=qcx (z:=.int .i64 0) (by kernel_rfl) (by kernel_rfl) rfl (by decide) (by decide)
theorem qd2 {n:Nat}{w w':World}{v:Value}{ss:List Int}(h:qap n w v ss){m:Nat}(hK:Keep (fun k=>k<m) w w')(hm:n<=m):qap n w' v ss:=
 h.mono fun _ _ _ hb h=>hK.cell h (Nat.lt_of_lt_of_le hb hm)
theorem qpr {n n':Nat}{w:World}{v:Value}{ss:List Int}(h:qap n w v ss)(hn:n<=n'):qap n' w v ss:=
 SliceIn.wider h hn fun _ _ _ _ h=>h
def qyc (n:Nat)(w:World)(b o:Nat)(t:List Int):Prop:= ∃sv,w.cell? ⟨b,o,none⟩=some sv/\qap n w sv t
def qdb (n:Nat)(t:List Int):Bool:=decide (t.length=n)&&t.all fun x=>decide (0<=x)
def qe1 (ts:List (List Int))(t:List Int):Option Nat:=(List.range ts.length).find? fun i=>decide (ts[i]?=some t)
def qjw:Option Nat->Value
 |none=>.tuple #[.int .i64 0,.bool false]
 |some i=>.tuple #[.int .i64 i,.bool true]
def qk2 (t cols key:List Int):Bool:=(List.range cols.length).all fun j=>decide (t[(cols.getD j 0).toNat]?=key[j]?)
def qhw (n:Nat)(cols:List Int)(i:Nat):Bool:=decide (0<=cols.getD i 0)&&decide (cols.getD i 0<n)&&(i==0 ||decide (cols.getD (i-1) 0<cols.getD i 0))
def qdo (n:Nat)(cols:List Int):Bool:=(List.range cols.length).all (qhw n cols)
theorem qnq {n:Nat}{cols:List Int}(h:qdo n cols=true): ∀c,c∈cols->0<=c/\c<n:=fun c hc=>by
 obtain⟨i,hi⟩:=mem_iff_getElem?.1 hc;have:=all_eq_true.1 h i (mem_range.2 (List.getElem?_eq_some_iff.1 hi).1);simp only [qhw,List.getD,hi,Option.getD_some,Bool.and_eq_true,decide_eq_true_eq]at this;exact this.1
def qyd (ts:List (List Int))(cols key:List Int)(lo hi:Int)(i:Nat):Bool:=decide (lo<=(i:Int))&&decide ((i:Int)<hi)&&qk2 (ts.getD i []) cols key
def qec (n:Nat)(ts:List (List Int))(cols key:List Int)(lo hi:Int):List Nat:=
 if (qdo n cols&&decide (key.length=cols.length))=true then (List.range ts.length).filter (qyd ts cols key lo hi) else []
theorem qye (n:Nat)(ts:List (List Int))(cols key:List Int)(lo hi:Int):(qec n ts cols key lo hi).length<=ts.length:=by
 unfold qec;split
 ·refine Nat.le_trans (length_filter_le _ _) ?_;simp
 ·simp
def RowsIn (F:Nat->Prop)(w:World)(B:Nat)(vL:Value)(ts:List (List Int))(svs:List Value):Prop:=
 svs.length=ts.length/\ ∀(j:Nat) (t:List Int),ts[j]?=some t-> ∃a c,svs[j]?=some (.slice a t.length c)/\t.length<=1073741824/\(t.length<=c/\c<=maxLen)/\
  ∀(k:Nat) (x:Int),t[k]?=some x-> ∃b o,a=some ⟨b,o,none⟩/\F b/\b≠B/\vL.ownBlock≠some b/\b<w.heap.size/\w.cell? ⟨b,o+k,none⟩=some (.int .i64 x)
theorem RowsIn.keep {F:Nat->Prop}{w w':World}{B:Nat}{vL:Value}{ts:List (List Int)}{svs:List Value}{C:Nat->Prop}(h:RowsIn F w B vL ts svs)(hK:Keep C w w')(hC: ∀b,F b->b<w.heap.size->b≠B->vL.ownBlock≠some b->C b):RowsIn F w' B vL ts svs:=by
 refine⟨h.1,fun j t ht=>?_⟩;obtain⟨a,c,h1,h2,h3,h4⟩:=h.2 j t ht;refine⟨a,c,h1,h2,h3,fun k x hk=>?_⟩;obtain⟨b,o,e1,e2,e3,e4,e5,e6⟩:=h4 k x hk;exact⟨b,o,e1,e2,e3,e4,Nat.lt_of_lt_of_le e5 hK.size,hK.cell e6 (hC b e2 e5 e3 e4)⟩
def qhh (n:Nat)(ts:List (List Int))(t:List Int):Int×Bool×Int:=if qdb n t=true then (match qe1 ts t with |some i=>((i:Int),false,0) |none=>((ts.length:Int),true,0)) else (0,false,2)
def qku (n:Nat)(ts:List (List Int))(t:List Int):List (List Int):=if (qhh n ts t).2.1=true then ts++ [t] else ts
end Go.Proofs.R4
