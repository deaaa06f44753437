/- Parts of the proof. -/
import Derived.Test.YtnponcjnahicnaaGreatProg
import Derived.Test.YtnponcjnahicnaaGreatRfKToLwB
import Derived.Test.YtnponcjnahicnaaGreatRoBToCmF
import Derived.Test.YtnponcjnahicnaaGreatJnDToJnE
import Derived.Test.YtnponcjnahicnaaGreatRfFToRfH
import Derived.Test.YtnponcjnahicnaaGreatLwCToLwE
import Derived.Test.YtnponcjnahicnaaGreatHdToKp
set_option linter.unusedSimpArgs false
set_option linter.unusedVariables false
open Go.Proofs.Tryz(prog)
open List(all_cons all_eq_true any_eq_false any_eq_true filter_cons_of_neg filter_cons_of_pos filter_sublist find?_eq_none getD_eq_getElem?_getD getElem?_eq_getElem getElem?_map getElem_mem headD_cons length_cons length_map length_reverse length_take map_append map_cons map_map mem_append mem_append_left mem_append_right mem_cons_of_mem mem_cons_self mem_filter mem_flatMap mem_iff_getElem? mem_map mem_of_mem_take mem_range mem_reverse mem_singleton nodup_nil take_add_one)
namespace Go.Proofs
open Go.RowKit Go.Ink Go.Flt R4 P16
def unX (y:ByteArray):ByteArray:=⟨(y.data.toList.drop 1).toArray⟩
theorem qt0 (x:ByteArray):(qd7 x).data.toList=82::x.data.toList:=by
 unfold qd7;rw [ByteArray.data_append,Array.toList_append]
 rfl
theorem qs6 (x:ByteArray):unX (qd7 x)=x:=by
 unfold unX;rw [qt0];simp
theorem qw9 {x y:ByteArray}(h:qd7 x=qd7 y):x=y:=by rw [←qs6 x,h,qs6]
def qes (L:LitD):LitD:=⟨L.kind,⟨L.atom.pred,L.atom.args.map qa8⟩,qa8 L.left,qa8 L.right⟩
def qbb (r:RuleD):RuleD:=⟨⟨r.head.pred,r.head.args.map qa8⟩,(r.body.map qes).reverse⟩
def qez (a:Asg):Asg:=fun y=>if qd7 (unX y)=y then a (unX y) else none
theorem qlc (a:Asg)(x:ByteArray):qez a (qd7 x)=a x:=by unfold qez;rw [qs6,if_pos rfl]
theorem q0q {a:Asg}{y v:ByteArray}(h:qez a y=some v): ∃x,y=qd7 x/\a x=some v:=by
 unfold qez at h;split at h
 ·rename_i e;exact⟨unX y,e.symm,h⟩
 ·cases h
theorem q3v {a b:Asg}(h:qez a=qez b):a=b:=by
 funext x
 rw [←qlc a,h,qlc]
theorem qo2 (a:Asg)(t:TermD):q8 (qez a) (qa8 t)=q8 a t:=by
 obtain⟨v,x⟩:=t;cases v with
 |true=>exact qlc a x
 |false=>rfl
theorem qry (a:Asg)(t:TermD):qb3 (qez a) (qa8 t)=qb3 a t:=by unfold qb3;rw [qo2]
theorem qiq (ts:List TermD):qac (ts.map qa8)=(qac ts).map qd7:=by
 unfold qac
 induction ts with
 |nil=>rfl
 |cons t ts ih=>
  obtain⟨v,x⟩:=t;cases v with
  |true=>
   rw [map_cons,filter_cons_of_pos rfl,map_cons,ih,filter_cons_of_pos rfl,map_cons,map_cons]
   rfl
  |false=>
   rw [map_cons,filter_cons_of_neg (by simp [qa8]),ih,filter_cons_of_neg (by simp)]
def qnb (c cN:List qm)(b:Asg)(L:LitD):Prop:=
 if L.kind=3 then q8 b L.left≠q8 b L.right
 else if L.kind=2 then L.atom.args.map (qb3 b)∉qu cN L.atom.pred L.atom.args.length
 else∃t,t∈qu c L.atom.pred L.atom.args.length/\L.atom.args.map (q8 b)=t.map some
theorem qo3 (c cN:List qm)(body:List LitD)(b:Asg)(i:Nat):qfq (qcu body (fun _=>c) cN) body b i↔qnb c cN b (body.getD i default):=Iff.rfl
theorem qrz (c cN:List qm)(b:Asg)(L:LitD):qnb c cN (qez b) (qes L)↔qnb c cN b L:=by
 unfold qnb qes;simp only [qo2,map_map,length_map];have h1:(qb3 (qez b)∘qa8)=qb3 b:=by funext t;exact qry b t
 have h2:(q8 (qez b)∘qa8)=q8 b:=by funext t;exact qo2 b t
 rw [h1,h2]
theorem qn5 {body:List LitD}{x:ByteArray}:x∈qz body (qbp body)↔ ∃L,L∈body/\L.kind=1/\x∈qac L.atom.args:=by
 rw [qge];constructor
 ·rintro⟨i,hi,-,hx⟩;obtain⟨h1,h2⟩:=qef hi;refine⟨body.getD i default,?_,h2,hx⟩;rw [getD_eq_getElem?_getD,getElem?_eq_getElem h1];exact getElem_mem h1
 ·rintro⟨L,hL,hk,hx⟩;obtain⟨i,hi⟩:=mem_iff_getElem?.1 hL;have h1:=(List.getElem?_eq_some_iff.1 hi).1;have h2:qbx body i=1:=by rw [qi1 hi];exact hk
  refine⟨i,?_,by omega,?_⟩
  ·unfold qbp;rw [mem_filter,mem_range];exact⟨h1,by simp [h2]⟩
  ·rw [getD_eq_getElem?_getD,hi];exact hx
theorem qq8 {c cN:List qm}{body:List LitD}(hk:qdk body)(b:Asg):b∈qcd (qcu body (fun _=>c) cN) body↔qgs qcb b (qz body (qbp body))/\ ∀L,L∈body->qnb c cN b L:=by
 rw [qjl,qtx];constructor
 ·rintro⟨⟨-,h1,h2⟩,h3⟩;refine⟨h1,fun L hL=>?_⟩;obtain⟨i,hi⟩:=mem_iff_getElem?.1 hL;have hl:=(List.getElem?_eq_some_iff.1 hi).1;have hL':body.getD i default=L:=by rw [getD_eq_getElem?_getD,hi];rfl
  rw [←hL',←qo3];rcases hk i hl with h |h
  ·refine h2 i ?_;unfold qbp;rw [mem_filter,mem_range];exact⟨hl,by simp [h]⟩
  ·exact h3 i hl h
 ·rintro⟨h1,h2⟩;have hget: ∀i,i<body.length->body.getD i default∈body:=fun i hi=>by
   rw [getD_eq_getElem?_getD,getElem?_eq_getElem hi];exact getElem_mem hi
  exact⟨⟨fun x v h=>(by cases h),h1,fun i hi=>(qo3 ..).2 (h2 _ (hget i (qef hi).1))⟩,fun i hi _=>(qo3 ..).2 (h2 _ (hget i hi))⟩
theorem qnc {J:qba}{body:List LitD}(hJ: ∀i,(J.pos i).Nodup):(qcd J body).Nodup:=by
 unfold qcd;exact(qko hJ _ _ (qlb body _ _ fun i hi=>(qef hi).2)).sublist filter_sublist
theorem qff {r:RuleD}{L:LitD}:L∈(qbb r).body↔ ∃M,M∈r.body/\L=qes M:=by
 unfold qbb;simp only [mem_reverse,mem_map];exact⟨fun⟨M,h1,h2⟩=>⟨M,h1,h2.symm⟩,fun⟨M,h1,h2⟩=>⟨M,h1,h2.symm⟩⟩
theorem qn6 {r:RuleD}{y:ByteArray}:y∈qz (qbb r).body (qbp (qbb r).body)↔ ∃x,y=qd7 x/\x∈qz r.body (qbp r.body):=by
 rw [qn5];constructor
 ·rintro⟨L,hL,hk,hy⟩;obtain⟨M,hM,rfl⟩:=qff.1 hL;have hy':y∈(qac M.atom.args).map qd7:=by rw [←qiq];exact hy
  obtain⟨x,hx,rfl⟩:=mem_map.1 hy';exact⟨x,rfl,qn5.2 ⟨M,hM,hk,hx⟩⟩
 ·rintro⟨x,rfl,hx⟩;obtain⟨M,hM,hk,hx⟩:=qn5.1 hx;refine⟨qes M,qff.2 ⟨M,hM,rfl⟩,hk,?_⟩;show qd7 x∈qac (M.atom.args.map qa8);rw [qiq];exact mem_map.2 ⟨x,hx,rfl⟩
theorem qq9 {c cN:List qm}{r:RuleD}(hk:qdk r.body)(hk':qdk (qbb r).body)(b:Asg):
  qez b∈qcd (qcu (qbb r).body (fun _=>c) cN) (qbb r).body↔b∈qcd (qcu r.body (fun _=>c) cN) r.body:=by
 rw [qq8 hk,qq8 hk'];have h1:qgs qcb (qez b) (qz (qbb r).body (qbp (qbb r).body))↔qgs qcb b (qz r.body (qbp r.body)):=by
  constructor
  ·intro h x;have hx:=h (qd7 x);rw [qlc,qn6]at hx;constructor
   ·intro hv;rcases hx.1 hv with ⟨v,hv⟩ |⟨z,hz,hp⟩
    ·cases hv
    ·rw [qw9 hz];exact .inr hp
   ·rintro(⟨v,hv⟩ |hp)
    ·cases hv
    ·exact hx.2 (.inr ⟨x,rfl,hp⟩)
  ·intro h y;constructor
   ·rintro⟨v,hv⟩;obtain⟨x,rfl,hx⟩:=q0q hv;rcases(h x).1 ⟨v,hx⟩ with ⟨v,hv⟩ |hp
    ·cases hv
    ·exact .inr (qn6.2 ⟨x,rfl,hp⟩)
   ·rintro(⟨v,hv⟩ |hp)
    ·cases hv
    ·obtain⟨x,rfl,hp'⟩:=qn6.1 hp;rw [qlc];exact(h x).2 (.inr hp')
 rw [h1];refine and_congr_right fun _=>⟨fun h L hL=>(qrz ..).1 (h _ (qff.2 ⟨L,hL,rfl⟩)),fun h L hL=>?_⟩;obtain⟨M,hM,rfl⟩:=qff.1 hL;exact(qrz ..).2 (h M hM)
theorem qt1 {c cN:List qm}{r:RuleD}(hk:qdk r.body)(hk':qdk (qbb r).body){b':Asg}(h:b'∈qcd (qcu (qbb r).body (fun _=>c) cN) (qbb r).body):
  ∃b,b'=qez b/\b∈qcd (qcu r.body (fun _=>c) cN) r.body:=by
 have e:b'=qez fun x=>b' (qd7 x):=by
  funext y
  unfold qez;split
  ·rename_i he;simp only [he]
  ·rename_i he;cases hb:b' y with
   |none=>rfl
   |some v=>
    exfalso;rcases(((qq8 hk' b').1 h).1 y).1 ⟨v,hb⟩ with ⟨v,hv⟩ |hp
    ·cases hv
    ·obtain⟨x,rfl,-⟩:=qn6.1 hp;rw [qs6]at he;exact he rfl
 refine⟨_,e,?_⟩;rw [←qq9 hk hk',←e];exact h
theorem qt2 (r:RuleD)(b:Asg):(qb7 (qbb r) (qez b)).head=(qb7 r b).head:=by
 unfold qb7 qbb;simp only [map_map];have h1:(qb3 (qez b)∘qa8)=qb3 b:=by funext t;exact qry b t
 rw [h1]
theorem qp6 {c cN:List qm}(hc:c.Nodup)(body:List LitD): ∀i,((qcu body (fun _=>c) cN).pos i).Nodup:=fun i=>qp4 hc _ _
theorem qxa {c cN:List qm}{r:RuleD}(hc:c.Nodup)(hk:qdk r.body)(hk':qdk (qbb r).body):
  (qd0 (qcu r.body (fun _=>c) cN) r).length=(qd0 (qcu (qbb r).body (fun _=>c) cN) (qbb r)).length:=by
 letI:DecidableEq Asg:=fun a b=>Classical.propDecidable (a=b)
 unfold qd0;rw [qhq,qhq,length_map,length_map];have hn:(((qcd (qcu r.body (fun _=>c) cN) r.body).map qez)).Nodup:=List.Pairwise.map qez (fun a b hab e=>hab (q3v e)) (qnc (qp6 (cN:=cN) hc r.body));have hn':=qnc (body:=(qbb r).body) (qp6 (cN:=cN) hc (qbb r).body);have l1:=qi4 hn (m:=qcd (qcu (qbb r).body (fun _=>c) cN) (qbb r).body) fun b hb=>by
  obtain⟨a,ha,rfl⟩:=mem_map.1 hb;exact(qq9 hk hk' a).2 ha
 have l2:=qi4 hn' (m:=(qcd (qcu r.body (fun _=>c) cN) r.body).map qez) fun b hb=>by
  obtain⟨a,rfl,ha⟩:=qt1 hk hk' hb;exact mem_map.2 ⟨a,ha,rfl⟩
 rw [length_map]at l1 l2;omega
theorem q0r {c cN:List qm}{r:RuleD}(hk:qdk r.body)(hk':qdk (qbb r).body):
  qgb (qd0 (qcu r.body (fun _=>c) cN) r) (qd0 (qcu (qbb r).body (fun _=>c) cN) (qbb r))=true/\qgb (qd0 (qcu (qbb r).body (fun _=>c) cN) (qbb r)) (qd0 (qcu r.body (fun _=>c) cN) r)=true:=by
 unfold qgb qii;constructor
 ·rw [all_eq_true];intro m hm;unfold qd0 at hm;rw [qhp,mem_map]at hm;obtain⟨b,hb,rfl⟩:=hm;rw [any_eq_true];refine⟨qb7 (qbb r) (qez b),?_,?_⟩
  ·unfold qd0;rw [qhp];exact mem_map.2 ⟨_,(qq9 hk hk' b).2 hb,rfl⟩
  ·rw [qt2];simp
 ·rw [all_eq_true];intro m hm;unfold qd0 at hm;rw [qhp,mem_map]at hm;obtain⟨b',hb',rfl⟩:=hm;obtain⟨b,rfl,hb⟩:=qt1 hk hk' hb';rw [any_eq_true];refine⟨qb7 r b,?_,?_⟩
  ·unfold qd0;rw [qhp];exact mem_map.2 ⟨_,hb,rfl⟩
  ·rw [qt2];simp
theorem qnd {r:RuleD}(hk:qdk r.body):qdk (qbb r).body:=fun i hi=>by
 have hm:(qbb r).body.getD i default∈(qbb r).body:=by
  rw [getD_eq_getElem?_getD,getElem?_eq_getElem hi];exact getElem_mem hi
 obtain⟨M,hM,e⟩:=qff.1 hm;obtain⟨j,hj⟩:=mem_iff_getElem?.1 hM;have h:=hk j (List.getElem?_eq_some_iff.1 hj).1;rw [qi1 hj]at h;unfold qbx;rw [e];exact h
theorem qo4 (x:ByteArray):qc5 (qd7 x)=82::qc5 x:=by
 unfold qc5;rw [qt0]
 rfl
theorem q3w (x:ByteArray):(qd7 x).size=x.size+1:=by
 rw [←qi6,qo4,length_cons,qi6]
theorem q5v {x:ByteArray}(h:qia x=true)(hs:x.size<64):qia (qd7 x)=true:=by
 unfold qia qb0 at h⊢;rw [qo4,q3w];unfold qfm;rw [qo4,headD_cons,all_cons];simp only [Bool.and_eq_true,decide_eq_true_eq]at h⊢;exact⟨⟨⟨by decide,h.1.1⟩,by omega,by omega⟩,by decide⟩
theorem qo5 {t:TermD}(h:qbr t=true)(hs:t.var=true->t.text.size<64):qbr (qa8 t)=true:=by
 obtain⟨v,x⟩:=t;cases v with
 |true=>exact q5v h (hs rfl)
 |false=>exact h
theorem q0s {ts:List TermD}(h:ts.all qbr=true)(hs: ∀t,t∈ts->t.var=true->t.text.size<64):(ts.map qa8).all qbr=true:=by
 rw [all_eq_true]at h⊢;intro t ht;obtain⟨u,hu,rfl⟩:=mem_map.1 ht;exact qo5 (h u hu) (hs u hu)
theorem qt3 {a:qd8}(h:qdt a=true)(hs: ∀t,t∈a.args->t.var=true->t.text.size<64):qdt ⟨a.pred,a.args.map qa8⟩=true:=by
 unfold qdt at h⊢;simp only [Bool.and_eq_true,decide_eq_true_eq,length_map]at h⊢;exact⟨h.1,q0s h.2 hs⟩
theorem q5w {L:LitD}(h:qct L=true)(hs: ∀t,t∈qr L->t.var=true->t.text.size<64):qct (qes L)=true:=by
 unfold qct qes at*;unfold qr at hs;by_cases hk:L.kind=1∨L.kind=2
 ·rw [if_pos hk]at h;rw [if_pos hk];rw [if_neg (by omega)]at hs;simp only [Bool.and_eq_true,decide_eq_true_eq]at h⊢;exact⟨⟨qt3 h.1.1 hs,by rw [h.1.2];rfl⟩,by rw [h.2];rfl⟩
 ·rw [if_neg hk]at h;rw [if_neg hk];by_cases h3:L.kind=3
  ·rw [if_pos h3]at h;rw [if_pos h3];rw [if_pos h3]at hs;simp only [Bool.and_eq_true,decide_eq_true_eq,length_map]at h⊢;exact⟨⟨h.1.1,qo5 h.1.2 (hs _ (by simp))⟩,qo5 h.2 (hs _ (by simp))⟩
  ·rw [if_neg h3]at h;cases h
theorem qo6 (L:LitD):(qes L).uses=L.uses.map qd7:=by
 unfold LitD.uses LitD.terms qes;simp only;split
 ·exact qiq _
 ·split
  ·exact qiq [L.left,L.right]
  ·rfl
theorem qkp {r:RuleD}{x:ByteArray}:x∈r.names↔x∈qac r.head.args∨ ∃L,L∈r.body/\x∈L.uses:=by
 rw [qjx,mem_append,mem_flatMap];exact Iff.rfl
theorem qne {r:RuleD}{y:ByteArray}:y∈(qbb r).names↔ ∃x,y=qd7 x/\x∈r.names:=by
 rw [qkp];constructor
 ·rintro(h |⟨L,hL,hy⟩)
  ·have h':y∈(qac r.head.args).map qd7:=by rw [←qiq];exact h
   obtain⟨x,hx,rfl⟩:=mem_map.1 h';exact⟨x,rfl,qkp.2 (.inl hx)⟩
  ·obtain⟨M,hM,rfl⟩:=qff.1 hL;rw [qo6]at hy;obtain⟨x,hx,rfl⟩:=mem_map.1 hy;exact⟨x,rfl,qkp.2 (.inr ⟨M,hM,hx⟩)⟩
 ·rintro⟨x,rfl,hx⟩;rcases qkp.1 hx with h |⟨M,hM,h⟩
  ·left;show qd7 x∈qac (r.head.args.map qa8)
   rw [qiq];exact mem_map.2 ⟨x,h,rfl⟩
  ·right;refine⟨qes M,qff.2 ⟨M,hM,rfl⟩,?_⟩
   rw [qo6];exact mem_map.2 ⟨x,h,rfl⟩
theorem qnf {body:List LitD}{x:ByteArray}:x∈qb9 body↔ ∃L,L∈body/\L.kind=1/\x∈L.uses:=by
 unfold qb9;rw [qeg,mem_flatMap];constructor
 ·rintro⟨L,hL,hx⟩;rw [mem_filter]at hL;exact⟨L,hL.1,by simpa using hL.2,hx⟩
 ·rintro⟨L,hL,hk,hx⟩;exact⟨L,mem_filter.2 ⟨hL,by simp [hk]⟩,hx⟩
theorem q0t {r:RuleD}(h:S12.looseOf r=none):S12.looseOf (qbb r)=none:=by
 unfold S12.looseOf;rw [find?_eq_none];intro y hy;obtain⟨x,rfl,hx⟩:=qne.1 hy;obtain⟨L,hL,hk,hu⟩:=qnf.1 (qmj h x hx);have:qd7 x∈qb9 (qbb r).body:=qnf.2 ⟨qes L,qff.2 ⟨L,hL,rfl⟩,hk,by rw [qo6];exact mem_map.2 ⟨x,hu,rfl⟩⟩;simp [this]
theorem q0u {r:RuleD}{x:ByteArray}:x∈qg8 r↔x∈qac (qc3 r):=by
 unfold qg8;rw [qcx];simp
theorem q3x {r:RuleD}(h:qdj r=0)(hs:qhn (qg8 r)=false):qdj (qbb r)=0:=by
 obtain⟨-,hf,hl⟩:=qxu h;have hsm: ∀t,t∈qc3 r->t.var=true->t.text.size<64:=fun t ht hv=>by
  have h1:t.text∈qg8 r:=q0u.2 (by unfold qac;exact mem_map.2 ⟨t,mem_filter.2 ⟨ht,hv⟩,rfl⟩);have h2:=any_eq_false.1 hs _ h1;simp only [decide_eq_true_eq]at h2;omega
 obtain⟨h1,h2,h3⟩:=qcr hf;have hf':qaq (qbb r)=true:=by
  unfold qaq;simp only [Bool.and_eq_true,decide_eq_true_eq];refine⟨⟨by unfold qbb;simp only [length_reverse,length_map];exact h1,qt3 h2 fun t ht hv=>hsm t (by unfold qc3;exact mem_append_left _ ht) hv⟩,?_⟩;rw [all_eq_true];intro L hL;obtain⟨M,hM,rfl⟩:=qff.1 hL;exact q5w (h3 M hM) fun t ht hv=>hsm t (by unfold qc3;exact mem_append_right _ (mem_flatMap.2 ⟨M,hM,ht⟩)) hv
 unfold qdj;rw [if_pos hf',if_pos (q0t hl)]
theorem qp7 (r:RuleD):(qad r).Nodup:=qyf (ts:=r.names) (l:= []) nodup_nil
theorem q3y (r:RuleD):(qad r).length=(qad (qbb r)).length:=by
 have hm: ∀x,x∈qad r↔x∈r.names:=fun x=>qeg _ _;have hm': ∀x,x∈qad (qbb r)↔x∈(qbb r).names:=fun x=>qeg _ _;have l1:=qi4 (l:=(qad r).map qd7) (List.Pairwise.map qd7 (fun a b hab e=>hab (qw9 e)) (qp7 r)) (m:=qad (qbb r)) fun b hb=>by
  obtain⟨a,ha,rfl⟩:=mem_map.1 hb;exact(hm' _).2 (qne.2 ⟨a,rfl,(hm a).1 ha⟩)
 have l2:=qi4 (qp7 (qbb r)) (m:=(qad r).map qd7) fun b hb=>by
  obtain⟨a,rfl,ha⟩:=qne.1 ((hm' b).1 hb);exact mem_map.2 ⟨a,(hm a).2 ha,rfl⟩
 rw [length_map]at l1 l2;omega
theorem qoh {g:Gh}{W:World}(hg:GInv g W)(s sN:Option Nat)(body:List LitD): ∀i,((qcn g s sN body).pos i).Nodup:=fun i=>qp4 (qnh hg s) _ _
theorem qld {g:Gh}{W:World}(hg:GInv g W)(s sN:Option Nat){r:RuleD}(hr:qel r):qgo ((qen g s sN r (-1)).map (qb7 r))=qd0 (qcn g s sN r.body) r:=by
 obtain⟨h1,h2,h3⟩:=qjn (qir hg s sN hr (-1) qjo);exact q5s (qoh hg s sN r.body) h1 h2 h3
theorem qxb {g:Gh}{W:World}(hg:GInv g W)(s sN:Option Nat){r:RuleD}(hr:qel r):(qen g s sN r (-1)).length=(qcd (qcn g s sN r.body) r.body).length:=by
 have h:=congrArg List.length (qld hg s sN hr);unfold qd0 at h;rw [qhq,qhq,length_map,length_map]at h;exact h
theorem qyg {l:List qm}{f:qm}(h:f∈qd1 okF l):f∈l:=by
 have hgo: ∀(l c:List qm),f∈l.foldl (qgj okF) c->f∈c∨f∈l:=by
  intro l
  induction l with
  |nil=>intro c h;exact .inl h
  |cons x l ih=>
   intro c h;rcases ih _ h with h |h
   ·unfold qgj at h;split at h
    ·rcases mem_append.1 h with h |h
     ·exact .inl h
     ·exact .inr (by rw [mem_singleton.1 h];exact mem_cons_self ..)
    ·exact .inl h
   ·exact .inr (mem_cons_of_mem _ h)
 rcases hgo l [] h with h |h
 ·cases h
 ·exact h
theorem qp8 {r:RuleD}{l:List qm}(h:qh7 r l=false):l.length<=400/\(qcj l []).length<=400/\qer r (qcj l []).length=false:=by
 unfold qh7 at h;split at h
 ·cases h
 ·rw [Bool.or_eq_false_iff]at h;exact⟨by omega,by have:=h.1;simp only [decide_eq_false_iff_not] at this;omega,h.2⟩
theorem q5x {g:Gh}{W:World}(hg:GInv g W){S:Nat}{c:List qm}(hS:g.st S=some c)(sN:Option Nat){r:RuleD}(hr:qel r){l:List qm}(hc: ∀f,f∈c->f∈l)(hv:qh7 r l=false):(qen g (some S) sN r (-1)).length<=20000:=by
 rw [qxb hg _ _ hr];obtain⟨-,h2,h3⟩:=qp8 hv;refine qv6 (qoh hg _ _ _) (fun i t s ht hs=>?_) h3;have hm:=(qci.1 ht).1;simp only [qdi,hS,Option.getD_some]at hm;exact((qtz (fs:=l) (l:= [])).2 h2).2 _ s (hc _ hm) hs
theorem qn7 {α:Type}{n n' sz:Nat}{w:World}{U U':Nat->Prop}{E:World->Nat->Nat->α->Prop}{v:Value}{xs:List α}(h:SliceIn n w sz (UE U E) v xs)(hn:n<=n')(hU: ∀b,U b->U' b):SliceIn n' w sz (UE U' E) v xs:=
 SliceIn.wider h hn fun b _ _ _ hx=>⟨hU b hx.1,hx.2⟩
theorem JoinAt.wide {U U':Nat->Prop}{n n':Nat}{w:World}{J:Nat}{r:RuleD}{vars:List ByteArray}{pos:List Int}{vha vb vv va vt vh:Value}(h:JoinAt U n w J r vars pos vha vb vv va vt vh)(hn:n<=n')(hU: ∀b,U b->U' b):JoinAt U' n' w J r vars pos vha vb vv va vt vh:=
 ⟨hU _ h.uJ,h.box,qn7 h.head hn hU,SliceIn.wider h.body hn fun b o x _ hx=>by
   obtain⟨h1,sa,h2,h3⟩:=hx;exact⟨hU b h1,sa,h2,qn7 h3 hn hU⟩,
  qn7 h.vrow hn hU,qn7 h.at' hn hU,SliceIn.wider h.terms hn fun b o x _ hx=>by
   obtain⟨h1,v,h2,h3⟩:=hx;exact⟨hU b h1,v,h2,qn7 h3 hn hU⟩,qn7 h.slots hn hU⟩
def JoinIs (g:Gh)(w:World)(J:Nat)(r:RuleD):Prop:=
 ∃vha vb vv va vt vh,JoinAt (fun b=>b<w.heap.size/\g.free b) w.heap.size w J r (qad r) (qew r.body r.body.length) vha vb vv va vt vh
theorem JoinIs.step {n0:Nat}{g g':Gh}{w w':World}{J:Nat}{r:RuleD}(h:JoinIs g w J r)(hs:GStep n0 g w g' w'):JoinIs g' w' J r:=by
 obtain⟨vha,vb,vv,va,vt,vh,h⟩:=h;have h2:=h.keep hs.keep (fun b hb=>hb.2) (fun b hb=>hb.1);exact⟨vha,vb,vv,va,vt,vh,h2.wide hs.keep.size fun b hb=>⟨Nat.lt_of_lt_of_le hb.1 hs.keep.size,hs.new b hb.1 hb.2⟩⟩
theorem qlz {g:Gh}{w w':World}(hg:GInv g w){J:Nat}{r:RuleD}{vha vb vv va vt vh:Value}(h:JoinAt (fun b=>w.heap.size<=b/\b<w'.heap.size) w'.heap.size w' J r (qad r) (qew r.body r.body.length) vha vb vv va vt vh):JoinIs g w' J r:=
 ⟨vha,vb,vv,va,vt,vh,h.wide (Nat.le_refl _) fun b hb=>⟨hb.2,qdp hg hb.1⟩⟩
theorem GStep.below {n0:Nat}{g:Gh}{X Y:World}(h:GInv g X)(hK:Keep (fun b=>b<X.heap.size) X Y):GStep n0 g X g Y:=
 GStep.own h ⟨hK.os,hK.tape,hK.output,hK.size,fun k hk _=>hK.block k hk hk⟩
def bA:ByteArray:=⟨#[97]⟩
def bB:ByteArray:=⟨#[98]⟩
def bC:ByteArray:=⟨#[99]⟩
def qhf:List qm:= [⟨bE,[bA,bB]⟩,⟨bE,[bB,bC]⟩,⟨bE,[bC,bA]⟩]
theorem qoi:qd1 okF qhf=qhf:=by decide
theorem q3z:qdj qhb=0:=by decide
theorem q30:qad qhb= [bX,bZ,bY]:=by decide
theorem q5y:(qew qhb.body qhb.body.length).length=2:=by decide
theorem qxc:qd0 (qcu qhb.body (fun _=>qhf) qhf) qhb= [⟨[bA,bC],[bA,bC,bB]⟩,⟨[bB,bA],[bB,bA,bC]⟩,⟨[bC,bB],[bC,bB,bA]⟩]:=by decide
end Go.Proofs
namespace Go.Proofs
open Go.RowKit Go.Ink Go.Flt R4 P16
attribute [local go_sem] Oper.semAt_some
def q7a (n0:Nat)(g:Gh)(w:World)(S nb:Nat)(l:List qat)(k:Nat)(γ:Gh)(X:World):Prop:=
 ∃(vl:Value) (qs:List MQ),X.heap[nb]?=some (.cells #[vl] 41 (0,0))/\γ.free nb/\MqsAt (fun b=>γ.free b/\S<=b) X vl qs/\qs.map (·.1)=l.take k/\GWay n0 g w γ X
def GaI (n0:Nat)(g:Gh)(w:World)(N:Nat)(lim:Int)(l:List qat)(k:Nat)(γ:Gh)(X:World):Prop:=
 (0<=lim->(k:Int)<=lim)/\X.heap[N]?=some (.cells #[.int .i64 lim] 3 (0,0))/\γ.free N/\q7a n0 g w (N+4) (N+1) l k γ X
def GaX (n0:Nat)(g:Gh)(w:World)(N:Nat)(lim:Int)(l:List qat)(c:Code)(k:Nat)(γ:Gh)(X:World):Prop:=
 c=.exit 0/\lim=(k:Int)/\X.heap[N]?=some (.cells #[.int .i64 lim] 3 (0,0))/\γ.free N/\q7a n0 g w (N+4) (N+1) l k γ X
def qk3 (lim:Int)(n:Nat):Nat:=if lim<0 then n else min lim.toNat n
set_option maxRecDepth 100000 in
set_option maxHeartbeats 1000000 in
theorem qt4 {n0:Nat}{Ss:List Nat}{g:Gh}{w:World}(hg:GInv g w)(hs:qfl Ss g)(hn0:n0<=w.heap.size){gf:Nat}{lb:Array Value}(eg: ∀args w,(callFunc gf args).run prog w=.ok (.enter gf args) w){all:Gh->List Asg}{r:RuleD}{V:World->Prop}{U:Nat->Prop}
  (hit:qs7 prog gf lb (qbz n0 Ss) (fun γ=>(all γ).length) (fun γ0 k γ n X args=> ∃b,(all γ0)[k]?=some b/\qmo r (qad r) b γ n X args) V U) (hU: ∀b,U b->g.free b) (hV: ∀X,Keep (fun b=>b<w.heap.size) w X->V X) (hVst: ∀X Y,V X->Keep (fun b=>b<w.heap.size) X Y->V Y) (hfew:(all g).length<=67108864) (hrs:r.head.args.length<=1073741824/\(qad r).length<=1073741824) (lim:Int):
  Calls prog 19 #[.func (.func gf) #[] lb,.int .i64 lim] w fun e w'=> ∃g' v qs,e=.returned v/\GStep n0 g w g' w'/\g'.st=g.st/\MqsAt (fun b=>g'.free b/\w.heap.size<=b) w' v qs/\qs.map (·.1)=qgo (((all g).map (qb7 r)).take (qk3 lim (all g).length)):=by
 obtain⟨N,hN⟩:=ex (w.heap.size);obtain⟨W0,hW0⟩:=ex ((w.alloc (.cells #[.int .i64 lim] 3)).alloc (.cells #[.slice none 0 0] 41));have k0:Keep (fun _=>True) w W0:=by rw [←hW0];exact kAl.trans kAl
 have z0:W0.heap.size=N+2:=by rw [←hW0,←hN];simp
 have p0:W0.heap[N]?=some (.cells #[.int .i64 lim] 3 (0,0)):=by rw [←hW0,←hN];exact(Keep.alloc (fun _=>True) _ _).heap (qh w _) trivial
 have p1:W0.heap[N+1]?=some (.cells #[.slice none 0 0] 41 (0,0)):=by
  rw [←hW0,←hN];have:=qh (w.alloc (.cells #[.int .i64 lim] 3)) (.cells #[.slice none 0 0] 41);rw [World.size_alloc]at this;exact this
 have hg0:=hg.keep (k0.mono fun _ _ _=>trivial);have hV0:=hV W0 (k0.mono fun _ _ _=>trivial);have hnil: ∀u,(binOp BinOp.eql 44 (.func (.func gf) #[] lb) .nilFunc).run prog u=.ok (.bool false) u:=fun u=>by kernel_rfl
 have hE: ∀(D:Nat) (γ:Gh) (W:World) (k:Nat) (vl:Value) (qs:List MQ),k<=(all g).length->D=N+2->γ.free D->W.heap[D]?=some (.deferred (some []))->W.heap[N+1]?=some (.cells #[vl] 41 (0,0))->γ.free (N+1)->MqsAt (fun b=>γ.free b/\N+4<=b) W vl qs->qs.map (·.1)=((all g).map (qb7 r)).take k->GWay n0 g w γ W->GInv γ W->qk3 lim (all g).length=k->
   Calls prog 20 #[vl] W fun e W'=> ∃v',e=.returned v'/\W'.heap[D]?=some (.deferred (some []))/\ ∃g' qs,GStep n0 g w g' (W'.putObj D (.deferred none))/\g'.st=g.st/\MqsAt (fun b=>g'.free b/\w.heap.size<=b) (W'.putObj D (.deferred none)) v' qs/\qs.map (·.1)=qgo (((all g).map (qb7 r)).take (qk3 lim (all g).length)):=by
  intro D γ W k vl qs hk hD hfD hWD hbx hbf hm hql hway hinv hlim;have hqk:qs.length=k:=by
   have:=congrArg List.length hql;rw [length_map,length_take,length_map]at this;omega
  have hsm: ∀q,q∈qs->q.1.head.length<=1073741824/\q.1.vals.length<=1073741824:=fun q hq=>by
   have h1:q.1∈((all g).map (qb7 r)).take k:=by rw [←hql];exact mem_map.2 ⟨q,hq,rfl⟩
   obtain⟨b,-,hb⟩:=mem_map.1 (mem_of_mem_take h1);rw [←hb];unfold qb7;simp only [length_map];exact hrs
  obtain⟨hin,hok⟩:=hm.mq (by omega) hsm;refine(qzi hin hok (Nat.le_refl _) (Nat.le_refl _) (by omega)).mono ?_;rintro e W' ⟨v',rfl,hK,os,ho,hs',hp⟩;have hDW:=qe hWD;have kD:Keep (fun b=>b<W.heap.size/\b≠D) W (W'.putObj D (.deferred none)):=(hK.mono fun b _ h=>h.1).trans (Keep.putObj _ _ _ (by simp));refine⟨v',rfl,hK.heap hWD hDW,γ,os,(hway.stay kD fun b hb=>⟨by omega,by omega⟩).gstep (hinv.keep (kD.mono fun b hb h=>⟨hb,fun e=>h (e▸hfD)⟩)),hway.st,?_,by rw [hs',hql,hlim]⟩;exact hm.perm kD (fun b hb hp=>⟨⟨hb,by omega⟩,hp.1,by omega⟩) (qg ho (Keep.putObj (C:=fun b=>b≠D) _ _ _ (by simp)) (fun b hb e=>by have:=(World.ownsRow.lt ho b hb).1;omega)) (fun b hb=>⟨qdp hinv hb,by omega⟩) hp
 refine q3n ?_ hE hg hs eg hit hU hV hVst hN hW0 k0 p0 p1 hg0 hV0;clear hE hg hs eg hit hU hV hVst hN hW0 k0 p0 p1 hg0 hV0;intro XhE Xhg Xhs Xeg Xhit XhU XhV XhVst XhN XhW0 Xk0 Xp0 Xp1 Xhg0 XhV0;refine qf4 Tryz.func19 rfl ?_;simp only [Tryz.ntmps19,qdo,Nat.reduceAdd,Nat.reduceSub];gi_wp2;rw [XhW0.o,XhN.o];refine qnk (qbz n0 Ss) g (gf:=gf) (lb:=lb) rfl Xeg.o Xhit.o XhU.o (fun γ0 k γ n X args h=>?ps) ⟨Xhg0.o,Xhs.o⟩ (fun b hb=>qdp Xhg0.o hb) XhV0.o (fun X Y hv hk=>XhVst.o X Y hv (hk.mono fun b _ hb=>by have:=XhN.o;omega))
  (GaI n0 g w N lim ((all g).map (qb7 r))) (GaX n0 g w N lim ((all g).map (qb7 r))) ?hI ?hIx ?hIs ?hIxs ?h0 ?round ?done ?stop
 case ps=>obtain⟨b,-,vh,vv,rfl,-⟩:=h;rfl
 case hI=>
  rintro k γ X Y ⟨h1,h2,h3,vl,qs,h4,h5,h6,h7,h8⟩ hK;exact⟨h1,hK.heap h2 (.inl (by omega)),h3,vl,qs,hK.heap h4 (.inl (by omega)),h5,h6.keep hK (fun b _ hp=>⟨.inr (by omega),hp⟩),h7,h8.stay hK (fun b hb=>.inl (by have:=XhN.o;omega))⟩
 case hIx=>
  rintro c k γ X Y ⟨h0,h1,h2,h3,vl,qs,h4,h5,h6,h7,h8⟩ hK;exact⟨h0,h1,hK.heap h2 (.inl (by omega)),h3,vl,qs,hK.heap h4 (.inl (by omega)),h5,h6.keep hK (fun b _ hp=>⟨.inr (by omega),hp⟩),h7,h8.stay hK (fun b hb=>.inl (by have:=XhN.o;omega))⟩
 case hIs=>
  rintro k γ X γ' Y ⟨h1,h2,h3,vl,qs,h4,h5,h6,h7,h8⟩ hs';exact⟨h1,hs'.1.keep.heap h2 h3,hs'.1.new N (qe h2) h3,vl,qs,hs'.1.keep.heap h4 h5,hs'.1.new _ (qe h4) h5,h6.keep hs'.1.keep (fun b hb hp=>⟨hp.1,hs'.1.new b hb hp.1,hp.2⟩),h7,h8.step hs'⟩
 case hIxs=>
  rintro c k γ X γ' Y ⟨h0,h1,h2,h3,vl,qs,h4,h5,h6,h7,h8⟩ hs';exact⟨h0,h1,hs'.1.keep.heap h2 h3,hs'.1.new N (qe h2) h3,vl,qs,hs'.1.keep.heap h4 h5,hs'.1.new _ (qe h4) h5,h6.keep hs'.1.keep (fun b hb hp=>⟨hp.1,hs'.1.new b hb hp.1,hp.2⟩),h7,h8.step hs'⟩
 case h0=>exact⟨fun h=>by simpa using h,Xp0.o,qdp Xhg.o (by have:=XhN.o;omega),.slice none 0 0,[],Xp1.o,qdp Xhg.o (by have:=XhN.o;omega),q55 _,rfl,GWay.refl Xk0.o⟩
 case stop=>
  rintro D c k γ W hD hfD hWD hsd hk ⟨rfl,h1,h2,h3,vl,qs,h4,h5,h6,h7,h8⟩ hinvW hVW;have hlg:qk3 lim (all g).length=k:=by unfold qk3;rw [if_neg (by omega)];omega
  have hfin:=XhE.o D γ W k vl qs (by omega) (by have:=hD;omega) hfD hWD h4 h5 h6 h7 h8 hinvW.1 hlg;have e0:=qb h4 0 _ rfl;have f0:=qe h4;simp only [Nat.zero_add]at e0;clear h1 h2 h4 h6 h7 h8 hinvW hVW hlg;refine hd1 ?_ hfin;clear hfin;intro Xhfin;gi_wp2;refine⟨trivial,rfl,(callsIn_wide.2 Xhfin.o).mono ?_⟩;rintro e W9 ⟨v9,rfl,hWD9,h9⟩;refine hd2 ?_ hWD9 h9;clear hWD9 h9;intro XhWD9 Xh9;gi_wp2;obtain⟨g9,q9,h9⟩:=Xh9.o;refine qhe XhWD9.o (qbw (results_tmp rfl _ _ _) ⟨g9,v9,q9,rfl,h9⟩)
 case round=>
  rintro l k γ X0 X args hBl hlX hfl hk ⟨hkl,hN0,hNf,vl,qs,hbx,hbf,hmq,hql,hway⟩ hs1 hinvX hVX hsz ⟨b,hbk,vh,vv,rfl,ho1,ho2,hf1,hf2,hd⟩;obtain⟨ah,ch,rfl⟩:=qi ho1;obtain⟨av,cv,rfl⟩:=qi ho2;obtain⟨X1,hX1⟩:=ex (X.alloc (.cells #[.slice ah r.head.args.length ch,.slice av (qad r).length cv] 48));obtain⟨nm,hnm⟩:=ex (X.heap.size);have kx:Keep (fun _=>True) X X1:=by rw [←hX1];exact kAl
  have px:X1.heap[nm]?=some (.cells #[.slice ah r.head.args.length ch,.slice av (qad r).length cv] 48 (0,0)):=by rw [←hX1,←hnm];exact qh _ _
  have zx:X1.heap.size=nm+1:=by rw [←hX1,←hnm];simp
  refine qq4 ?_ hkl hN0 hbx hmq hway hs1 hinvX hVX hfl hX1 hnm kx px hbk;clear hkl hN0 hbx hmq hway hs1 hinvX hVX hfl hX1 hnm kx px hbk;intro Xhkl XhN0 Xhbx Xhmq Xhway Xhs1 XhinvX XhVX Xhfl XhX1 Xhnm Xkx Xpx Xhbk;gi_wp2;rw [XhX1.o,Xhnm.o];refine⟨Xkx.o.mono fun _ _ _=>trivial,fun Y hY hYs hYl=>?_⟩;have hl1:l=N+3:=by have:=Xhfl.o.2.2;omega
  have zX0:=(Xhs1.o.1.keep).size;have zX:=Xkx.o.size;have zY:=hY.size;have hnm':=Xhnm.o;have kXY:Keep (fun b=>b≠l) X Y:=(Xkx.o.mono fun _ _ _=>trivial).trans hY;have aN:=hY.heap (Xkx.o.heap (Xhs1.o.1.keep.heap XhN0.o hNf) trivial) (show N≠l by omega);have aB:=hY.heap (Xkx.o.heap (Xhs1.o.1.keep.heap Xhbx.o hbf) trivial) (show N+1≠l by omega);have aM:=hY.heap Xpx.o (show nm≠l by omega);have c0:=qb aN 0 _ rfl;have c1:=qb aB 0 _ rfl;have c2:=qb aM 0 _ rfl;have c3:=qb aM 1 _ rfl;have l0:=qe aN;have l1:=qe aB;have l2:=qe aM;simp only [Nat.zero_add]at c0 c1 c2 c3;have hqk:qs.length=k:=by
   have:=congrArg List.length hql;rw [length_map,length_take,length_map]at this;omega
  have hmX:MqsAt (fun b=>γ.free b/\N+4<=b) X vl qs:=Xhmq.o.keep Xhs1.o.1.keep (fun b hb hp=>⟨hp.1,Xhs1.o.1.new b hb hp.1,hp.2⟩);have hmY:MqsAt (fun b=>γ.free b/\N+4<=b) Y vl qs:=hmX.keep kXY (fun b hb hp=>⟨by omega,hp⟩);have hvo:=hmY.blk;have o1:=qg ho1 kXY (fun b hb e=>by have:=(World.ownsRow.lt ho1 b hb).1;omega);have o2:=qg ho2 kXY (fun b hb e=>by have:=(World.ownsRow.lt ho2 b hb).1;omega);obtain⟨b0,hb0⟩:=ex (qb7 r b);have hh:b0.head=r.head.args.map (qb3 b):=by rw [←hb0];rfl
  have hv:b0.vals=(qad r).map fun x=>(b x).getD ⟨#[]⟩:=by rw [←hb0];rfl
  have hfrX: ∀u,X.heap.size<=u->γ.free u:=fun u hu=>qdp XhinvX.o.1 hu;obtain⟨al,cl,gb,cap,Y3,hvl,hr3,hm3,hk3⟩:=hmY.snoc (m:=b0) (vh:=.slice ah r.head.args.length ch) (vv:=.slice av (qad r).length cv) (n:=X0.heap.size) (by rw [hh,length_map];exact o1) (by rw [hv,length_map];exact o2)
   (fun u hu=>⟨hf1 u hu,by have:=(World.ownsRow.lt ho1 u hu).1;omega⟩) (fun u hu=>⟨hf2 u hu,by have:=(World.ownsRow.lt ho2 u hu).1;omega⟩) hd Xhmq.o.lt (by omega) (fun u hu=>⟨hfrX u (by omega),by omega⟩)
  subst hvl;rw [hqk]at c1 aB hr3 hm3;have bY3:=hk3.heap aB (fun e=>by have:=(hvo (N+1) e).2;omega);have c4:=qb bY3 0 _ rfl;have f4:=qf bY3 0;have l4:=qe bY3;simp only [Nat.zero_add]at c4;have hgo:(0<=lim->((k+1:Nat):Int)<=lim)->qfg (qbz n0 Ss) W0.heap.size l X.heap.size V γ Y (Y3.setCell ⟨N+1,0,none⟩ (.slice (some ⟨gb,0,none⟩) (k+1) cap)) (fun γ'=>GaI n0 g w N lim ((all g).map (qb7 r)) (k+1) γ' (Y3.setCell ⟨N+1,0,none⟩ (.slice (some ⟨gb,0,none⟩) (k+1) cap))):=fun hlim=>by
   have e3:((all g).map (qb7 r)).take (k+1)=(qs++ [(b0,Value.slice ah r.head.args.length ch,Value.slice av (qad r).length cv)]).map (·.1):=by
    rw [map_append,hql,take_add_one,getElem?_map,Xhbk.o,←hb0];rfl
   have nY3:=hk3.heap aN (fun e=>by have:=(hvo N e).2;omega);have kZ:Keep (fun b=>b≠N+1) Y3 (Y3.setCell ⟨N+1,0,none⟩ (.slice (some ⟨gb,0,none⟩) (k+1) cap)):=kSc;have kYZ:Keep (fun b=>b≠N+1/\(Value.slice al qs.length cl).ownBlock≠some b) Y (Y3.setCell ⟨N+1,0,none⟩ (.slice (some ⟨gb,0,none⟩) (k+1) cap)):=(hk3.mono fun b _ h=>h.2).trans (kZ.mono fun b _ h=>h.1);have kXZ:Keep (fun b=>b≠l/\b≠N+1/\(Value.slice al qs.length cl).ownBlock≠some b) X (Y3.setCell ⟨N+1,0,none⟩ (.slice (some ⟨gb,0,none⟩) (k+1) cap)):=(kXY.mono fun b _ h=>h.1).trans (kYZ.mono fun b _ h=>h.2);refine⟨γ,(qbz n0 Ss).invk XhinvX.o (kXZ.mono fun b _ h=>⟨fun e=>h (e▸Xhfl.o.1),fun e=>h (e▸hbf),fun e=>h (hvo b e).1⟩),XhVst.o _ _ XhVX.o (kXZ.mono fun b _ h=>⟨by have:=XhN.o;omega,by have:=XhN.o;omega,fun e=>by have:=(hvo b e).2;have:=XhN.o;omega⟩),GBd.refl _ _,kYZ.mono fun b _ h=>⟨by omega,fun e=>by have:=(hvo b e).2;omega⟩,hlim,kZ.heap nY3 (show N≠N+1 by omega),hNf,_,_,qg0 _ bY3,hbf,hm3.keep kZ (fun b _ hp=>⟨by omega,hp⟩),e3.symm,?_⟩;exact((Xhway.o.step Xhs1.o).stay kXZ fun b hb=>⟨by have:=XhN.o;omega,by have:=XhN.o;omega,fun e=>by have:=(hvo b e).2;have:=XhN.o;omega⟩)
  have hstop: ∀q:Int,q=(k:Int)->lim=q->qfg (qbz n0 Ss) W0.heap.size l X.heap.size V γ Y Y (fun γ'=>GaX n0 g w N lim ((all g).map (qb7 r)) (.exit 0) k γ' Y):=fun q hq hlim=>by
   refine⟨γ,(qbz n0 Ss).invk XhinvX.o (kXY.mono fun b _ h e=>h (e▸Xhfl.o.1)),XhVst.o _ _ XhVX.o (kXY.mono fun b _ h=>by have:=XhN.o;omega),GBd.refl _ _,Keep.refl _ _,rfl,hlim.trans hq,aN,hNf,_,qs,(by rw [hqk];exact aB),hbf,hmY,hql,(Xhway.o.step Xhs1.o).stay kXY fun b hb=>by have:=XhN.o;omega⟩
  clear aN aB aM bY3 hmX hmY hvo o1 o2 hh hv hfrX hm3 hk3 kXY hb0;have hway3:(lim=(k:Int))∨((k:Int)<lim)∨lim<0:=by
   have:=Xhkl.o;omega
  have hk0:(0:Int)<=k:=by omega
  refine qc9 ?_ hY hgo hstop hr3 hql hf1 hf2 hd ho1 ho2 hnil zx hYs z0 hqk hl1;clear hY hgo hstop hr3 hql hf1 hf2 hd ho1 ho2 hnil zx hYs z0 hqk hl1;intro XhY Xhgo Xhstop Xhr3 Xhql Xhf1 Xhf2 Xhd Xho1 Xho2 Xhnil Xzx XhYs Xz0 Xhqk Xhl1;clear zX0 zX zY hnm';rcases hway3 with h3 |h3 |h3
  ·have h4:(0:Int)<=lim:=by omega
   have hs4:=Xhstop.o _ rfl h3;have h5:((k:Int)==lim)=true:=beq_iff_eq.2 h3.symm;refine hd2 ?_ h3 hs4;clear h3 hs4;intro Xh3 Xhs4;gi_wp2;exact Xhs4.o
  ·have h4:(0:Int)<=lim:=by omega
   have h5: ¬(k:Int)=lim:=by omega
   gi_wp2_with (gi_at_builtin;refine qb6 rfl _ _ _ rfl rfl rfl Xhr3.o ?_)
   exact Xhgo.o (fun _=>by omega)
  ·have h4: ¬(0:Int)<=lim:=by omega
   gi_wp2_with (gi_at_builtin;refine qb6 rfl _ _ _ rfl rfl rfl Xhr3.o ?_)
   exact Xhgo.o (fun _=>by omega)
 case done=>
  rintro D γ W hD hfD hWD hsd ⟨h1,h2,h3,vl,qs,h4,h5,h6,h7,h8⟩ hinvW hVW;have hlg:qk3 lim (all g).length=(all g).length:=by
   unfold qk3;split
   ·rfl
   ·have:=h1 (by omega);omega
  have hfin:=XhE.o D γ W _ vl qs (Nat.le_refl _) (by have:=hD;omega) hfD hWD h4 h5 h6 h7 h8 hinvW.1 hlg;have e0:=qb h4 0 _ rfl;have f0:=qe h4;simp only [Nat.zero_add]at e0;clear h1 h2 h4 h6 h7 h8 hinvW hVW hlg;refine hd1 ?_ hfin;clear hfin;intro Xhfin;gi_wp2;refine⟨trivial,rfl,(callsIn_wide.2 Xhfin.o).mono ?_⟩;rintro e W9 ⟨v9,rfl,hWD9,h9⟩;refine hd2 ?_ hWD9 h9;clear hWD9 h9;intro XhWD9 Xh9;gi_wp2;obtain⟨g9,q9,h9⟩:=Xh9.o;refine qhe XhWD9.o (qbw (results_tmp rfl _ _ _) ⟨g9,v9,q9,rfl,h9⟩)
end Go.Proofs
