/- Parts of the proof. -/
import Derived.Test.YtnponcjnahicnaaGreatProg
import Derived.Test.YtnponcjnahicnaaGreatStHToTxC
import Derived.Deep.Cut
import Derived.Test.YtnponcjnahicnaaGreatHdToKp
import Derived.Test.YtnponcjnahicnaaGreatStGToStJ
import Derived.Test.YtnponcjnahicnaaGreatPnQToPnU
import Derived.Test.YtnponcjnahicnaaGreatHoistToRowC
import Derived.Test.YtnponcjnahicnaaGreatJnBToJnC
set_option linter.unusedSimpArgs false
set_option linter.unusedVariables false
open Go.Proofs.Tryz(prog)
open List(drop_eq_getElem_cons eq_nil_of_length_eq_zero ext_getElem? find?_eq_none find?_eq_some_iff_getElem foldl_append foldl_cons getD_eq_getElem?_getD getElem?_eq_getElem getElem?_inj getElem?_map getElem?_set_ne getElem?_set_self getElem?_take_of_lt getElem_idxOf getElem_range idxOf_lt_length_of_mem length_append length_cons length_set length_take map_congr_left map_map mem_cons mem_cons_of_mem mem_cons_self mem_iff_getElem? mem_map mem_of_getElem? mem_range nil_append take_add_one take_append_drop take_append_of_le_length take_length)
namespace Go.Proofs
open Go.RowKit Go.Ink R4
attribute [local go_sem] Oper.semAt_some
structure SlotD where
 place:Int
 text:ByteArray
def SlotD.val (s:SlotD):Value:=.agg #[.int .i64 s.place,.string s.text]
def SlotE (w:World)(b o:Nat)(s:SlotD):Prop:=w.cell? ⟨b,o,none⟩=some (.int .i64 s.place)/\w.cell? ⟨b,o+1,none⟩=some (.string s.text)
abbrev q6l (n:Nat)(w:World)(v:Value)(ss:List SlotD):Prop:=SliceIn n w 2 SlotE v ss
theorem SlotE.keep {n:Nat}{w w':World}{b o:Nat}{s:SlotD}(h:SlotE w b o s)(hb:b<n)(hK:Keep (fun k=>k<n) w w'):SlotE w' b o s:=⟨hK.cell h.1 hb,hK.cell h.2 hb⟩
def qeb (vals:List ByteArray)(s:SlotD):ByteArray:=if s.place<0 then s.text else vals.getD s.place.toNat ⟨#[]⟩
structure ValsAt (w:World)(Bv V:Nat)(vals:List ByteArray):Prop where
 box:w.heap[Bv]?=some (.cells #[.slice (some ⟨V,0,none⟩) vals.length vals.length] 46 (0,0))
 row:w.heap[V]?=some (.cells (vals.map Value.string).toArray 9 (0,0))
theorem ValsAt.keep {w w':World}{Bv V:Nat}{vals:List ByteArray}{C:Nat->Prop}(h:ValsAt w Bv V vals)(hK:Keep C w w')(h1:C Bv)(h2:C V):ValsAt w' Bv V vals:=⟨hK.heap h.box h1,hK.heap h.row h2⟩
theorem ValsAt.cell {w:World}{Bv V:Nat}{vals:List ByteArray}(h:ValsAt w Bv V vals){p:Nat}{s:ByteArray}(hp:vals[p]?=some s):w.cell? ⟨V,p,none⟩=some (.string s):=by
 have:=qb h.row p (.string s) (by simp [getElem?_map,hp])
 simpa using this
theorem qsr (n:Nat)(h:n<=1073741824)(u:World):(Instr.makeSlice 46 (.int .i64 0) (.int .i64 (n:Int))).run prog u=
  .ok (.slice (some ⟨u.heap.size,0,none⟩) 0 n) (u.alloc (.cells (Array.replicate n (Value.string ⟨#[]⟩)) 9)):=by
 obtain⟨i0,hi,hz0,hz1,hz2⟩:=info_parts qvb;have h:=run_make (P:=prog) u 46 9 i0 (.string ⟨#[]⟩) Tryz.underlying46 hi hz0 .i64 .i64 (0:Int) (n:Int) (by omega) (by omega) (by rw [hz2];omega) (by omega)
 simpa [hz1,Value.cells,qse]using h
set_option maxRecDepth 100000 in
theorem qql {w:World}{Bv V:Nat}{vals:List ByteArray}(h:ValsAt w Bv V vals)(hl:vals.length<=1073741824)(s:SlotD)(hs:s.place<vals.length):
  Calls prog 86 #[s.val,qj Bv] w fun e w'=>e=.returned (.string (qeb vals s))/\Keep (fun _=>True) w w':=by
 obtain⟨p,t⟩:=s;simp only at hs;unfold SlotD.val qeb;simp only;obtain⟨N,hN⟩:=ex (w.heap.size);obtain⟨W0,hW0⟩:=ex (w.alloc (.cells #[.int .i64 p,.string t] 93));have k0:Keep (fun _=>True) w W0:=by rw [←hW0];exact kAl
 have q0:W0.heap[N]?=some (.cells #[.int .i64 p,.string t] 93 (0,0)):=by rw [←hW0,←hN];exact qh _ _
 have c0:=qb q0 0 _ rfl;have c1:=qb q0 1 _ rfl;have hNl:=qe q0;simp only [Nat.zero_add]at c0 c1;by_cases hp:p<0
 ·rw [if_pos hp];refine hd4 ?_ h k0 hW0 hN;clear h k0 hW0 hN;intro Xh Xk0 XhW0 XhN
  go_enter Tryz.func86,Tryz.ntmps86
  go_wp2_with fail;rw [XhW0.o,XhN.o];go_wp2_with fail;go_ret;exact⟨rfl,Xk0.o⟩
 ·rw [if_neg hp];obtain⟨k,rfl⟩: ∃k:Nat,p=(k:Int):=⟨p.toNat,by omega⟩;obtain⟨s,hk⟩: ∃s,vals[k]?=some s:=⟨_,getElem?_eq_getElem (by omega)⟩;have hg:vals.getD ((k:Int)).toNat ⟨#[]⟩=s:=by rw [getD_eq_getElem?_getD];simp [hk]
  rw [hg];have d0:=qb h.box 0 _ rfl;have d1:=h.cell hk;have hBl:=qe h.box;have hVl:=qe h.row;have hk0:(0:Int)<=k:=by omega
  simp only [Nat.zero_add]at d0;clear hg hk q0 c0 c1 hNl;refine hd4 ?_ h k0 hW0 hN;clear h k0 hW0 hN;intro Xh Xk0 XhW0 XhN
  go_enter Tryz.func86,Tryz.ntmps86
  go_wp2_with fail;go_ret;exact⟨rfl,kAl⟩
set_option maxRecDepth 100000 in
set_option maxHeartbeats 2000000 in
theorem qoe {w:World}{Bt Bv V:Nat}{vals:List ByteArray}(ht:w.heap[Bt]?=some (.cells #[.func (.func 86) #[] #[qj Bv]] 157 (0,0)))(h:ValsAt w Bv V vals)(hl:vals.length<=1073741824)(m:Nat)(v:Value)(ss:List SlotD)(hss:q6l m w v ss)(hm:m<=w.heap.size)(hpl: ∀s,s∈ss->s.place<vals.length):
  Calls prog 87 #[v,qj Bt] w fun e w'=> ∃vo,e=.returned vo/\w'.ownsRow w.heap.size 9 1 vo ss.length ((ss.map (qeb vals)).map .string)/\Keep (fun _=>True) w w':=by
 obtain⟨a,c,rfl,hls,hcs,hes⟩:=id hss;obtain⟨B,hB⟩:=ex (w.heap.size);obtain⟨W0,hW0⟩:=ex (w.alloc (.cells (Array.replicate ss.length (Value.string ⟨#[]⟩)) 9));have k0:Keep (fun _=>True) w W0:=by rw [←hW0];exact kAl
 have z0:W0.heap.size=w.heap.size+1:=by rw [←hW0];simp
 have q0:W0.ownsRow w.heap.size 9 1 (.slice (some ⟨w.heap.size,0,none⟩) 0 ss.length) 0 []:=by
  rw [←hW0];exact World.ownsRow_made w _ ss.length (Nat.le_refl _) (by simp only [maxLen];omega) (by simp)
 have hmk:=fun u=>qsr ss.length hls u;rw [hB]at q0 z0;clear hss;refine hd8 ?_ hes k0 q0 hW0 hB h ht hpl;clear hes k0 q0 hW0 hB h ht hpl;intro Xhes Xk0 Xq0 XhW0 XhB Xh Xht Xhpl
 go_enter Tryz.func87,Tryz.ntmps87
 go_wp2_with fail;rw [XhW0.o,XhB.o];clear hmk
 go_loopw [4,12] (fun x6 i' wr=> ∃k:Nat,k<=ss.length/\i'=.int .i64 (k:Int)/\wr.ownsRow B 9 1 x6 k (((ss.take k).map (qeb vals)).map .string)/\Keep (fun b=>b<B) w wr) (fun _ i _=>ss.length-(intOf i).toNat)
 case atStart=>exact⟨0,by omega,rfl,Xq0.o,Xk0.o.mono fun _ _ _=>trivial⟩
 case round=>
  obtain⟨k,hk,rfl,ho,hK⟩:=hrel;have hsz:=hK.size;by_cases hlt:k<ss.length
  ·have hlt1:(k:Int)<ss.length:=by omega
   have hk0:(0:Int)<=k:=by omega
   obtain⟨s,hs⟩: ∃s,ss[k]?=some s:=⟨_,getElem?_eq_getElem hlt⟩;obtain⟨b,o,rfl,hbm,hcc⟩:=Xhes.o k s hs;have hc1:wr.cell? ⟨b,o+k*2,none⟩=some (.int .i64 s.place):=hK.cell hcc.1 (by have:=XhB.o;simp only;omega);have hc2:wr.cell? ⟨b,o+k*2+1,none⟩=some (.string s.text):=hK.cell hcc.2 (by have:=XhB.o;simp only;omega);have hbw:b<wr.heap.size:=by have:=XhB.o;omega
   have htl:=qe Xht.o;have hnt:((ss.take (k+1)).map (qeb vals)).map Value.string=((ss.take k).map (qeb vals)).map Value.string++ [.string (qeb vals s)]:=by rw [take_add_one,hs];simp
   obtain⟨W1,hW1⟩:=ex (wr.alloc (.cells #[.int .i64 s.place,.string s.text] 93));obtain⟨N,hN⟩:=ex (wr.heap.size);have k1:Keep (fun _=>True) wr W1:=by rw [←hW1];exact kAl
   have q1:W1.heap[N]?=some (.cells #[.int .i64 s.place,.string s.text] 93 (0,0)):=by rw [←hW1,←hN];exact qh _ _
   have e0:=qb q1 0 _ rfl;have e1:=qb q1 1 _ rfl;have hK1:Keep (fun b=>b<B) w W1:=hK.trans (k1.mono fun _ _ _=>trivial);have ht1:=qb (hK.heap Xht.o (by have:=XhB.o;omega)) 0 _ rfl;have hBtl:=qe (hK.heap Xht.o (by have:=XhB.o;omega));simp only [Nat.zero_add]at ht1;clear e0 e1;have hvv:ValsAt W1 Bv V vals:=Xh.o.keep hK1 (by have:=qe Xh.o.box;have:=XhB.o;omega) (by have:=qe Xh.o.row;have:=XhB.o;omega);have htx:=qql hvv hl s (Xhpl.o s (mem_of_getElem? hs));have ho1:=qg ho k1 (fun _ _=>trivial);obtain⟨a6,c6,rfl⟩:=qi ho;unfold SlotD.val at htx;clear hcc hs hvv k1 q1 ho;refine hd7 ?_ htx hK hK1 ho1 hnt hW1 hN;clear htx hK hK1 ho1 hnt hW1 hN;intro Xhtx XhK XhK1 Xho1 Xhnt XhW1 XhN;go_wp2_with fail;rw [XhW1.o];refine Xhtx.o.mono ?_;rintro e W2 ⟨rfl,k2⟩;have ho2:=qg Xho1.o k2 (fun _ _=>trivial);obtain⟨v',W6,hr,ho6,k6,g,cap,hv,hgo,hg6⟩:=qc4 (P:=prog) qga 46 ho2 [.string (qeb vals s)] rfl (by simp [Value.oneCell']) (by omega) (by have:=k2.size;have:=XhK1.o.size;have:=XhB.o;omega);subst hv;have hK6:Keep (fun b=>b<B) w W6:=(XhK1.o.trans (k2.mono fun _ _ _=>trivial)).trans (k6.mono fun b _ (hb:b<B) e=>by have:=(World.ownsRow.lt ho2 b e.symm).1;omega);clear k2 k6 ho2 hgo;refine hd4 ?_ hr ho6 hK6 hg6;clear hr ho6 hK6 hg6;intro Xhr Xho6 XhK6 Xhg6;go_wp2_with (at_builtin;refine qcq (v:=.slice a6 k c6) (u:=.slice (some ⟨W2.heap.size,0,none⟩) 1 1) (v':=.slice (some ⟨g,0,none⟩) (k+1) cap) (w':=W6) rfl (.tmp 16) (.tmp 20) 46 rfl rfl rfl Xhr.o ?_);go_roundw
   case rel=>
    refine⟨k+1,by omega,by go_num,?_,XhK6.o⟩;rw [Xhnt.o];exact Xho6.o
   case measure=>simp [intOf];omega
  ·obtain rfl:k=ss.length:=by omega
   rw [take_length]at ho;obtain⟨a6,c6,rfl⟩:=qi ho;clear hlt;refine hd2 ?_ ho hK;clear ho hK;intro Xho XhK;go_wp2_with fail;go_ret;exact⟨_,rfl,Xho.o.mono (by have:=XhB.o;omega),XhK.o.mono fun b hb _=>by have:=XhB.o;omega⟩
end Go.Proofs
namespace Go.Proofs
open Go.RowKit Go.Ink R4
def qaw (vars:List ByteArray)(t:TermD):SlotD:=if t.var=true then ⟨(vars.idxOf t.text:Nat),⟨#[]⟩⟩ else ⟨-1,t.text⟩
def qv (L:LitD):List TermD:=if L.kind=3 then [L.left,L.right] else L.atom.args
def qe6 (vars:List ByteArray)(t:TermD):Prop:=t.var=true->t.text∈vars
structure qdu (vars vals:List ByteArray)(kn:List Bool)(a:Asg):Prop where
 lv:vals.length=vars.length
 lk:kn.length=vars.length
 kw: ∀(p:Nat) (x:ByteArray),vars[p]?=some x->(kn[p]?=some true↔ ∃v,a x=some v)
 val: ∀(p:Nat) (x v:ByteArray),vars[p]?=some x->a x=some v->vals[p]?=some v
 small: ∀x v,a x=some v->v.size<=1073741824
theorem qve {vars:List ByteArray}{x:ByteArray}(h:x∈vars):vars[vars.idxOf x]?=some x:=by
 have hl:=idxOf_lt_length_of_mem h;rw [getElem?_eq_getElem hl,getElem_idxOf]
theorem qo4 {vars vals:List ByteArray}{t:TermD}(h:qe6 vars t)(hl:vals.length=vars.length):(qaw vars t).place<vals.length:=by
 unfold qaw;split
 ·rename_i hv;have:=idxOf_lt_length_of_mem (h hv);simp only;omega
 ·simp only;omega
theorem qnk {vars vals:List ByteArray}{kn:List Bool}{a:Asg}(h:qdu vars vals kn a){t:TermD}(hin:qe6 vars t){y:ByteArray}(ht:qy a t=some y):qeb vals (qaw vars t)=y:=by
 unfold qy at ht;unfold qeb qaw;by_cases hv:t.var=true
 ·rw [if_pos hv]at ht;rw [if_pos hv];have:=h.val _ _ _ (qve (hin hv)) ht;rw [if_neg (by simp only;omega),getD_eq_getElem?_getD];simp only [Int.toNat_natCast];rw [this]
  rfl
 ·rw [if_neg hv]at ht;rw [if_neg hv,if_pos (by simp only;omega)];exact Option.some.inj ht
theorem qxj {vars vals:List ByteArray}{kn:List Bool}{a:Asg}(h:qdu vars vals kn a){t:TermD}(hin:qe6 vars t)(hv:t.var=true):kn[vars.idxOf t.text]?=some (qy a t).isSome:=by
 have hx:=qve (hin hv);have hl:=idxOf_lt_length_of_mem (hin hv);have hk:=h.kw _ _ hx;have e:kn[vars.idxOf t.text]?=some (kn[vars.idxOf t.text]'(by rw [h.lk];exact hl)):=getElem?_eq_getElem _;rw [e]at hk⊢;have e2:qy a t=a t.text:=by unfold qy;rw [if_pos hv]
 rw [e2];cases ha:a t.text with
 |some v=>rw [hk.2 ⟨v,ha⟩];rfl
 |none=>
  cases hb:kn[vars.idxOf t.text]'(by rw [h.lk];exact hl) with
  |false=>rfl
  |true=>
   rw [hb]at hk;obtain⟨v,hv⟩:=hk.1 rfl;rw [ha]at hv;cases hv
theorem q4x {vars vals:List ByteArray}{kn:List Bool}{a:Asg}(hn:vars.Nodup)(h:qdu vars vals kn a){p:Nat}{x:ByteArray}(hp:vars[p]?=some x)(v:ByteArray)(hs:v.size<=1073741824):qdu vars (vals.set p v) (kn.set p true) (qfw a x v):=by
 have hl:=(List.getElem?_eq_some_iff.1 hp).1;have hne: ∀(q:Nat) (y:ByteArray),vars[q]?=some y->q≠p->y≠x:=fun q y hq hqp e=>by
  subst e;exact hqp ((getElem?_inj (List.getElem?_eq_some_iff.1 hq).1 hn).1 (hq.trans hp.symm))
 refine⟨by rw [length_set];exact h.lv,by rw [length_set];exact h.lk,fun q y hq=>?_,fun q y u hq hu=>?_,fun y u hu=>?_⟩
 ·by_cases e:q=p
  ·subst e;rw [hp]at hq;cases hq;rw [getElem?_set_self (by rw [h.lk];exact hl)];exact⟨fun _=>⟨v,qqq _ _ _⟩,fun _=>rfl⟩
  ·rw [getElem?_set_ne (fun e2=>e e2.symm),h.kw q y hq];unfold qfw;rw [if_neg (hne q y hq e)]
 ·by_cases e:q=p
  ·subst e;rw [hp]at hq;cases hq;rw [qqq]at hu;cases hu;exact getElem?_set_self (by rw [h.lv];exact hl)
  ·rw [getElem?_set_ne (fun e2=>e e2.symm)];unfold qfw at hu;rw [if_neg (hne q y hq e)]at hu;exact h.val q y u hq hu
 ·unfold qfw at hu;split at hu
  ·cases hu;exact hs
  ·exact h.small y u hu
theorem qo5 {vars vals vals':List ByteArray}{kn kn':List Bool}{a a':Asg}(h:qdu vars vals kn a)(h':qdu vars vals' kn' a')(hE:ExtA a a'):qdu vars vals' kn a:=⟨h'.lv,h.lk,h.kw,fun p x v hp hx=>h'.val p x v hp (hE x v hx),h.small⟩
theorem q4y {vars vals:List ByteArray}{kn:List Bool}{a:Asg}(h:qdu vars vals kn a)(hf: ∀x,x∈vars-> ∃v,a x=some v):vals=vars.map fun x=>(a x).getD ⟨#[]⟩:=by
 refine ext_getElem? fun p=>?_;rw [getElem?_map];cases hx:vars[p]? with
 |none=>rw [List.getElem?_eq_none_iff.2 (by rw [h.lv];exact List.getElem?_eq_none_iff.1 hx)];rfl
 |some x=>
  obtain⟨v,hv⟩:=hf x (mem_of_getElem? hx);rw [h.val p x v hx hv,Option.map_some,hv]
  rfl
def qbj (kn:List Bool)(mine:List Nat)(b:Bool):List Bool:=mine.foldl (fun k p=>k.set p b) kn
theorem qgs (mine:List Nat)(b:Bool): ∀kn,(qbj kn mine b).length=kn.length:=by
 induction mine with
 |nil=>intro kn;rfl
 |cons p mine ih=>intro kn;unfold qbj at ih⊢;rw [foldl_cons,ih,length_set]
theorem qo6 (mine:List Nat)(b:Bool): ∀(kn:List Bool) (q:Nat),(qbj kn mine b)[q]?=if q∈mine/\q<kn.length then some b else kn[q]?:=by
 induction mine with
 |nil=>intro kn q;simp [qbj]
 |cons p mine ih=>
  intro kn q;have:=ih (kn.set p b) q;unfold qbj at this⊢;rw [foldl_cons,this,length_set];by_cases hq:q<kn.length
  ·by_cases h1:q∈mine
   ·rw [if_pos ⟨h1,hq⟩,if_pos ⟨mem_cons_of_mem _ h1,hq⟩]
   ·rw [if_neg (fun h=>h1 h.1)];by_cases h2:q=p
    ·subst h2;rw [if_pos ⟨mem_cons_self ..,hq⟩,getElem?_set_self hq]
    ·rw [if_neg (fun h=>(mem_cons.1 h.1).elim h2 h1),getElem?_set_ne (fun e=>h2 e.symm)]
  ·rw [if_neg (fun h=>hq h.2),if_neg (fun h=>hq h.2),List.getElem?_eq_none_iff.2 (by rw [length_set];omega),List.getElem?_eq_none_iff.2 (by omega)]
theorem ql8 {kn:List Bool}{mine:List Nat}(h: ∀p,p∈mine->kn[p]?=some false):qbj (qbj kn mine true) mine false=kn:=by
 refine ext_getElem? fun q=>?_;rw [qo6,qo6,qgs];by_cases hq:q∈mine/\q<kn.length
 ·rw [if_pos hq,h q hq.1]
 ·rw [if_neg hq,if_neg hq]
theorem qqm (kn:List Bool)(mine:List Nat)(p:Nat)(b:Bool):qbj kn (mine++ [p]) b=(qbj kn mine b).set p b:=by unfold qbj;rw [foldl_append];rfl
theorem qxk {us:List TermD}{ys:List ByteArray}: ∀{ts:List TermD} {xs:List ByteArray} {a:Asg},ts.length=xs.length->qcd a (ts++us) (xs++ys)=(qcd a ts xs).bind fun b=>qcd b us ys:=by
 intro ts
 induction ts with
 |nil=>
  intro xs a h;cases xs with
  |nil=>rfl
  |cons x xs=>cases h
 |cons t ts ih=>
  intro xs a h;cases xs with
  |nil=>cases h
  |cons x xs=>
   rw [length_cons,length_cons]at h;have e1:qcd a (t::ts++us) (x::xs++ys)=match qy a t with
    |some y=>if y=x then qcd a (ts++us) (xs++ys) else none
    |none=>qcd (qfw a t.text x) (ts++us) (xs++ys):=rfl
   have e2:qcd a (t::ts) (x::xs)=match qy a t with
    |some y=>if y=x then qcd a ts xs else none
    |none=>qcd (qfw a t.text x) ts xs:=rfl
   rw [e1,e2];split
   ·split
    ·exact ih (by omega)
    ·rfl
   ·exact ih (by omega)
theorem qkm {a b:Asg}{ts:List TermD}{xs:List ByteArray}{c:Nat}{t:TermD}{x:ByteArray}(ht:ts[c]?=some t)(hx:xs[c]?=some x)(h:qcd a (ts.take c) (xs.take c)=some b):
  (∀y,qy b t=some y->y=x->qcd a (ts.take (c+1)) (xs.take (c+1))=some b)/\(qy b t=none->qcd a (ts.take (c+1)) (xs.take (c+1))=some (qfw b t.text x))/\(∀y,qy b t=some y->y≠x->qcd a ts xs=none):=by
 have hl:=(List.getElem?_eq_some_iff.1 ht).1;have hxl:=(List.getElem?_eq_some_iff.1 hx).1;have hlen:(ts.take c).length=(xs.take c).length:=by rw [length_take,length_take];omega
 have e1:qcd a (ts.take (c+1)) (xs.take (c+1))=qcd b [t] [x]:=by
  rw [take_add_one,ht,take_add_one,hx];exact(qxk hlen).trans (by rw [h];rfl)
 refine⟨fun y hy he=>?_,fun hy=>?_,fun y hy he=>?_⟩
 ·rw [e1];unfold qcd;rw [hy];simp only;rw [if_pos he]
  rfl
 ·rw [e1];unfold qcd;rw [hy]
  rfl
 ·have e2:ts=ts.take c++t::ts.drop (c+1):=by
   conv=>lhs;rw [←take_append_drop c ts]
   rw [drop_eq_getElem_cons hl,(List.getElem?_eq_some_iff.1 ht).2]
  have e3:xs=xs.take c++x::xs.drop (c+1):=by
   conv=>lhs;rw [←take_append_drop c xs]
   rw [drop_eq_getElem_cons hxl,(List.getElem?_eq_some_iff.1 hx).2]
  rw [e2,e3,qxk hlen,h,Option.bind_some];unfold qcd;rw [hy];simp only;rw [if_neg he]
structure LookD where
 store:Option Nat
 pred:ByteArray
 arity:Nat
 upto:Nat
def qz (s:Option Nat):Value:=.pointer (s.map fun S=>⟨S,0,none⟩)
def LookD.cells (k:LookD):List Value:= [qz k.store,.string k.pred,.int .i64 (k.arity:Int),.int .i64 (k.upto:Int)]
structure WkC where
 r:RuleD
 vars:List ByteArray
 looks:List LookD
 steps:List Nat
 J:Nat
 l:Nat
 Bj:Nat
 By:Nat
 Bl:Nat
 Lk:Nat
 Bs:Nat
 Bv:Nat
 V:Nat
 Bk:Nat
 K:Nat
 Bt:Nat
 Bu:Nat
 Bp:Nat
 vs:Value
 pos:List Int
 vha:Value
 vb:Value
 vv:Value
 va:Value
 vt:Value
 vh:Value
def WkC.nv (c:WkC)(b:Nat):Prop:=b≠c.V/\b≠c.K
def WkC.bound (c:WkC):Array Value:= #[qj c.Bs,qj c.By,qj c.Bu,qj c.Bj,qj c.Bv,qj c.Bl,qj c.Bt,qj c.Bp,qj c.Bk]
structure WkHeld (c:WkC)(g:Gh)(vals:List ByteArray)(kn:List Bool):Prop where
 j:g.held c.Bj=some (.cells #[qj c.J] 31 (0,0))/\c.nv c.Bj
 y:g.held c.By=some (.cells #[.func (.yield c.l) #[] #[]] 103 (0,0))/\c.nv c.By
 l:g.held c.Bl=some (.cells #[.slice (some ⟨c.Lk,0,none⟩) c.looks.length c.looks.length] 153 (0,0))/\c.nv c.Bl
 lk:g.held c.Lk=some (.cells (c.looks.flatMap LookD.cells).toArray 161 (0,0))/\c.nv c.Lk
 s:g.held c.Bs=some (.cells #[c.vs] 86 (0,0))/\c.nv c.Bs
 sv: ∃a cap,c.vs=.slice a c.steps.length cap/\(c.steps.length<=cap/\cap<=maxLen)/\ ∀(k i:Nat),c.steps[k]?=some i-> ∃b,a=some ⟨b,0,none⟩/\c.nv b/\ ∃cs:Array Value,g.held b=some (.cells cs 3 (0,0))/\cs[k]?=some (.int .i64 (i:Int))
 v:g.held c.Bv=some (.cells #[.slice (some ⟨c.V,0,none⟩) vals.length vals.length] 46 (0,0))/\c.nv c.Bv
 k:g.held c.Bk=some (.cells #[.slice (some ⟨c.K,0,none⟩) kn.length kn.length] 68 (0,0))/\c.nv c.Bk
 t:g.held c.Bt=some (.cells #[.func (.func 86) #[] #[qj c.Bv]] 157 (0,0))/\c.nv c.Bt
 u:g.held c.Bu=some (.cells #[.func (.func 87) #[] #[qj c.Bt]] 158 (0,0))/\c.nv c.Bu
 p:g.held c.Bp=some (.cells #[.func (.func 88) #[] c.bound] 159 (0,0))/\c.nv c.Bp
 row:g.held c.V=some (.cells (vals.map Value.string).toArray 9 (0,0))
 knr:g.held c.K=some (.cells (kn.map Value.bool).toArray 4 (0,0))
 vk:c.V≠c.K
theorem WkHeld.keep {c:WkC}{g g':Gh}{vals vals':List ByteArray}{kn kn':List Bool}(h:WkHeld c g vals kn)(he: ∀b o,g.held b=some o->c.nv b->g'.held b=some o)(hlv:vals'.length=vals.length)(hlk:kn'.length=kn.length)
  (hr:g'.held c.V=some (.cells (vals'.map Value.string).toArray 9 (0,0))) (hk:g'.held c.K=some (.cells (kn'.map Value.bool).toArray 4 (0,0))):WkHeld c g' vals' kn':=by
 have e: ∀{b o},g.held b=some o/\c.nv b->g'.held b=some o/\c.nv b:=fun h=>⟨he _ _ h.1 h.2,h.2⟩;refine⟨e h.j,e h.y,e h.l,e h.lk,e h.s,?_,by rw [hlv];exact e h.v,by rw [hlk];exact e h.k,e h.t,e h.u,e h.p,hr,hk,h.vk⟩;obtain⟨a,cap,h1,h2,h3⟩:=h.sv;refine⟨a,cap,h1,h2,fun k i hi=>?_⟩;obtain⟨b,q1,q2,cs,q3,q4⟩:=h3 k i hi;exact⟨b,q1,q2,cs,he _ _ q3 q2,q4⟩
theorem WkHeld.same {c:WkC}{g g':Gh}{vals:List ByteArray}{kn:List Bool}(h:WkHeld c g vals kn)(he: ∀b o,g.held b=some o->g'.held b=some o):WkHeld c g' vals kn:=h.keep (fun b o hb _=>he b o hb) rfl rfl (he _ _ h.row) (he _ _ h.knr)
def LookOk (c:WkC)(J:qa7)(g:Gh):Prop:= ∀(i:Nat) (L:LitD) (k:LookD),c.r.body[i]?=some L->c.looks[i]?=some k->
 k.pred=L.atom.pred/\k.arity=L.atom.args.length/\
 (L.kind=1-> ∃S f,k.store=some S/\g.st S=some f/\0<k.upto/\k.upto<=(qo f k.pred k.arity).length/\(qo f k.pred k.arity).take k.upto=J.pos i)/\
 (L.kind=2->(k.store=none/\J.neg i= [])∨ ∃S f,k.store=some S/\g.st S=some f/\k.upto<=(qo f k.pred k.arity).length/\(qo f k.pred k.arity).take k.upto=J.neg i)
theorem LookOk.more {c:WkC}{J:qa7}{g g':Gh}(h:LookOk c J g)(hm: ∀S f,g.st S=some f-> ∃d,g'.st S=some (f++d)):LookOk c J g':=by
 intro i L k hL hk;obtain⟨h1,h2,h3,h4⟩:=h i L k hL hk;have key: ∀S f,g.st S=some f->k.upto<=(qo f k.pred k.arity).length-> ∃f',g'.st S=some f'/\k.upto<=(qo f' k.pred k.arity).length/\(qo f' k.pred k.arity).take k.upto=(qo f k.pred k.arity).take k.upto:=fun S f hS hu=>by
  obtain⟨d,hd⟩:=hm S f hS;refine⟨_,hd,?_,?_⟩
  ·rw [qjn,length_append];omega
  ·rw [qjn,take_append_of_le_length hu]
 refine⟨h1,h2,fun hk1=>?_,fun hk2=>?_⟩
 ·obtain⟨S,f,q1,q2,q3,q4,q5⟩:=h3 hk1;obtain⟨f',p1,p2,p3⟩:=key S f q2 q4;exact⟨S,f',q1,p1,q3,p2,p3.trans q5⟩
 ·rcases h4 hk2 with q |⟨S,f,q1,q2,q4,q5⟩
  ·exact .inl q
  ·obtain⟨f',p1,p2,p3⟩:=key S f q2 q4;exact .inr ⟨S,f',q1,p1,p2,p3.trans q5⟩
theorem qzl {l:List (List ByteArray)}{t:List ByteArray}{upto:Nat}:t∈l.take upto↔ ∃i,qdl l t=some i/\i<upto:=by
 constructor
 ·intro h;obtain⟨j,hj⟩:=mem_iff_getElem?.1 h;have hj1:j<upto:=by have:=(List.getElem?_eq_some_iff.1 hj).1;rw [length_take] at this;omega
  rw [getElem?_take_of_lt hj1]at hj;have hjl:=(List.getElem?_eq_some_iff.1 hj).1;unfold qdl;cases e:(List.range l.length).find? fun i=>decide (l[i]?=some t) with
  |none=>exact absurd (decide_eq_true hj) (find?_eq_none.1 e j (mem_range.2 hjl))
  |some i=>
   refine⟨i,rfl,Nat.lt_of_le_of_lt (Nat.not_lt.1 fun hlt=>?_) hj1⟩;have hp:=find?_eq_some_iff_getElem.1 e;obtain⟨_,k,hk,hki,hno⟩:=hp;rw [getElem_range]at hki;have:=hno j (by omega);rw [getElem_range]at this;simp [hj]at this
 ·rintro⟨i,hi,hu⟩;have:=qob hi;exact mem_of_getElem? (by rw [getElem?_take_of_lt hu];exact this)
end Go.Proofs
namespace Go.Proofs
open Go.RowKit Go.Ink R4 P16
attribute [local go_sem] Oper.semAt_some
set_option maxRecDepth 100000 in
theorem qq5 (a:Option Addr)(m c:Nat)(news:List Value)(w:World)(hl:news.length=m*1)(hs: ∀b,a=some b-> ∀j u,news[j]?=some u->w.cell? (b.add j)=some u)(hn:a=none->m=0)(h1: ∀u∈news,u.oneCell'=true)(hm:m<=1073741824):
  Calls prog 64 #[.slice a m c] w fun e w'=> ∃v',e=.returned v'/\w'.ownsRow w.heap.size 9 1 v' m news/\Keep (fun _=>True) w w':=by
 have hq:=fun w a l c=>qqz qga w a l c;cases a with
 |none=>
  have hm0:=hn rfl;subst hm0;have hnil:news= []:=eq_nil_of_length_eq_zero (by simpa using hl);subst hnil;clear hl hs hn h1 hm
  go_enter Tryz.func64,Tryz.ntmps64
  go_wp2_with fail;go_ret;exact⟨_,rfl,World.ownsRow_nil _ _ _ _,Keep.refl _ _⟩
 |some b=>
  obtain⟨W0,hW0⟩:=ex (w.alloc (.cells #[] 9));have k0:Keep (fun _=>True) w W0:=by rw [←hW0];exact kAl
  have o0:=qiv w 9 1;rw [hW0]at o0;obtain⟨v',W1,hr,ho,hg,hk⟩:=qji (P:=prog) qga 46 o0 (some b) m c news hl (fun b' hb j u hj=>k0.cell (hs b' hb j u hj) trivial) (fun h=>by cases h) h1 (by omega) k0.size;rw [nil_append,Nat.zero_add]at ho;have hk1:Keep (fun b=>b<w.heap.size) w W1:=(k0.mono fun _ _ _=>trivial).trans (hk.mono fun b _ h e=>by
   rcases hg b e with h1 |h1
   ·simp [Value.ownBlock]at h1;omega
   ·have:=k0.size;omega)
  have hk2:Keep (fun _=>True) w W1:=hk1.mono fun b hb _=>hb;rw [←hW0]at hr;obtain⟨a',c',rfl⟩:=qi ho;clear hl hs hn h1 hg hk hk1 k0 o0 hW0;refine hd3 ?_ hr ho hk2;clear hr ho hk2;intro Xhr Xho Xhk2
  go_enter Tryz.func64,Tryz.ntmps64
  go_wp2_with (at_builtin;refine qcq (v:=.slice (some ⟨w.heap.size,0,none⟩) 0 0) (u:=.slice (some b) m c) (v':=.slice a' m c') (w':=W1) rfl (.tmp 5) (.tmp 6) 46 rfl rfl rfl Xhr.o ?_);go_ret;exact⟨_,rfl,Xho.o,Xhk2.o⟩
theorem qld {w:World}{m:Nat}{v:Value}{ts:List ByteArray}(h:qae m w v ts)(hm:m<=w.heap.size)(hnil: ∀n c,v=.slice none n c->n=0):Calls prog 64 #[v] w fun e w'=> ∃v',e=.returned v'/\w'.ownsRow w.heap.size 9 1 v' ts.length (ts.map .string)/\Keep (fun _=>True) w w':=by
 obtain⟨a,c,rfl,hl,hc,he⟩:=h;refine qq5 a ts.length c (ts.map .string) w (by simp) (fun b hb j u hj=>?_) (fun e=>hnil _ _ (by rw [e])) (fun u hu=>?_) hl
 ·rw [getElem?_map]at hj;cases hx:ts[j]? with
  |none=>rw [hx] at hj;cases hj
  |some x=>
   rw [hx]at hj;cases hj;obtain⟨b',o,e,hb',hs⟩:=he j x hx;rw [hb]at e;cases e;unfold qgc at hs;rw [Nat.mul_one]at hs;rw [show((⟨b',o,none⟩:Addr).add j)=⟨b',o+j,none⟩ from by unfold Addr.add;split<;>simp_all];exact hs
 ·obtain⟨x,_,rfl⟩:=mem_map.1 hu;simp [Value.oneCell']
end Go.Proofs
namespace Go.Ink
open Go.RowKit
section
variable {F : Fence} {n : Nat} {P : Program} {ops : Array Oper} {Q : Exit -> Act -> World -> Prop} {md : Region.Mode} {S : World -> Prop} {late : List Nat}
theorem qq6 {i:Nat}{oi:Oper}{a:Act}{w:World}{K:Act->World->Prop}(hi:ops[i]?=some oi)(h1:wpListIn F n P ops (Exit.then K Q) [oi] a w):wpOpIn F n P ops Q i K a w:=by
 unfold wpOpIn;rw [hi];unfold wpListIn at h1;simp only at h1⊢;split
 ·rename_i hw;rw [if_pos hw]at h1;unfold Oper.wpIn at h1⊢;refine⟨h1.1,?_⟩;have h1:=h1.2;generalize (oi.semAt F.round a.eval).run P w=r at h1⊢;cases r with
  |ok x w'=>
   cases x<;>simp only [Oper.uponIn] at h1⊢
   case value u=>exact h1
   case skip=>exact h1
   case defer d=>exact h1
   case enter f args=>exact⟨h1.1,CallsIn.mono h1.2 fun e w'' he=>by cases e<;>exact he⟩
   case row row args=>exact⟨h1.1,RowsIn.mono h1.2 fun u w'' he=>he⟩
   case round l f tmps assign body=>exact⟨h1.1,RoundIn.mono h1.2 fun e w'' he=>by cases e<;>exact he⟩
  |halt x w'=>cases x<;>simp only [Oper.uponIn] at h1⊢;exact h1
 ·rename_i hw;rw [if_neg hw]at h1;exact h1
end
end Go.Ink
namespace Go.Proofs
open Go.RowKit Go.Ink R4
attribute [local go_sem] Oper.semAt_some
def UE {α:Type}(U:Nat->Prop)(E:World->Nat->Nat->α->Prop):World->Nat->Nat->α->Prop:=fun w b o x=>U b/\E w b o x
def q7r (U:Nat->Prop)(n:Nat)(w:World)(b o:Nat)(L:LitD):Prop:=U b/\ ∃sa,CellsE w b o (qaf L sa)/\SliceIn n w 2 (UE U TermE) sa L.atom.args
def q7i (U:Nat->Prop)(n:Nat)(w:World)(b o:Nat)(ss:List SlotD):Prop:=U b/\ ∃v,w.cell? ⟨b,o,none⟩=some v/\SliceIn n w 2 (UE U SlotE) v ss
def qco (vars:List ByteArray)(L:LitD):List SlotD:=(qv L).map (qaw vars)
structure JoinAt (U:Nat->Prop)(n:Nat)(w:World)(J:Nat)(r:RuleD)(vars:List ByteArray)(pos:List Int)(vha vb vv va vt vh:Value):Prop where
 uJ:U J
 box:w.heap[J]?=some (.cells #[.string r.head.pred,vha,vb,vv,va,vt,vh] 90 (0,0))
 head:SliceIn n w 2 (UE U TermE) vha r.head.args
 body:SliceIn n w 7 (q7r U n) vb r.body
 vrow:SliceIn n w 1 (UE U qgc) vv vars
 at':SliceIn n w 1 (UE U qfr) va pos
 terms:SliceIn n w 1 (q7i U n) vt (r.body.map (qco vars))
 slots:SliceIn n w 2 (UE U SlotE) vh (r.head.args.map (qaw vars))
theorem UE.keep {α:Type}{U:Nat->Prop}{E:World->Nat->Nat->α->Prop}{w w':World}{b o:Nat}{x:α}(h:UE U E w b o x)(hE: ∀{b o x},w'.heap[b]?=w.heap[b]?->E w b o x->E w' b o x)(hb: ∀b,U b->w'.heap[b]?=w.heap[b]?):UE U E w' b o x:=⟨h.1,hE (hb b h.1) h.2⟩
theorem qxl {w w':World}{b o:Nat}{x:TermD}(h:w'.heap[b]?=w.heap[b]?)(hx:TermE w b o x):TermE w' b o x:=⟨(World.cell?_of_block (a:=⟨b,o,none⟩) h).trans hx.1,(World.cell?_of_block (a:=⟨b,o+1,none⟩) h).trans hx.2⟩
theorem qq7 {w w':World}{b o:Nat}{x:SlotD}(h:w'.heap[b]?=w.heap[b]?)(hx:SlotE w b o x):SlotE w' b o x:=⟨(World.cell?_of_block (a:=⟨b,o,none⟩) h).trans hx.1,(World.cell?_of_block (a:=⟨b,o+1,none⟩) h).trans hx.2⟩
theorem q7j {w w':World}{b o:Nat}{x:ByteArray}(h:w'.heap[b]?=w.heap[b]?)(hx:qgc w b o x):qgc w' b o x:=(World.cell?_of_block (a:=⟨b,o,none⟩) h).trans hx
theorem q7k {w w':World}{b o:Nat}{x:Int}(h:w'.heap[b]?=w.heap[b]?)(hx:qfr w b o x):qfr w' b o x:=(World.cell?_of_block (a:=⟨b,o,none⟩) h).trans hx
theorem JoinAt.same {U:Nat->Prop}{n:Nat}{w w':World}{J:Nat}{r:RuleD}{vars:List ByteArray}{pos:List Int}{vha vb vv va vt vh:Value}(h:JoinAt U n w J r vars pos vha vb vv va vt vh)(hb: ∀b,U b->w'.heap[b]?=w.heap[b]?):JoinAt U n w' J r vars pos vha vb vv va vt vh:=
 ⟨h.uJ,(hb _ h.uJ).trans h.box,h.head.mono fun _ _ _ _ hx=>hx.keep qxl hb,h.body.mono fun b o x _ hx=>by
   obtain⟨h1,sa,h2,h3⟩:=hx;exact⟨h1,sa,fun j v hv=>(World.cell?_of_block (a:=⟨b,o+j,none⟩) (hb b h1)).trans (h2 j v hv),h3.mono fun _ _ _ _ hx=>hx.keep qxl hb⟩,
  h.vrow.mono fun _ _ _ _ hx=>hx.keep q7j hb,h.at'.mono fun _ _ _ _ hx=>hx.keep q7k hb,h.terms.mono fun b o x _ hx=>by
   obtain⟨h1,v,h2,h3⟩:=hx;exact⟨h1,v,(World.cell?_of_block (a:=⟨b,o,none⟩) (hb b h1)).trans h2,h3.mono fun _ _ _ _ hx=>hx.keep qq7 hb⟩,
  h.slots.mono fun _ _ _ _ hx=>hx.keep qq7 hb⟩
theorem JoinAt.keep {U:Nat->Prop}{n:Nat}{w w':World}{J:Nat}{r:RuleD}{vars:List ByteArray}{pos:List Int}{vha vb vv va vt vh:Value}{C:Nat->Prop}(h:JoinAt U n w J r vars pos vha vb vv va vt vh)(hK:Keep C w w')(hC: ∀b,U b->C b)(hn: ∀b,U b->b<w.heap.size):JoinAt U n w' J r vars pos vha vb vv va vt vh:=
 h.same fun b hb=>hK.block b (hn b hb) (hC b hb)
def qkn (r:RuleD)(vars:List ByteArray)(b:Asg)(g:Gh)(n:Nat)(X:World)(args:Array Value):Prop:=
 ∃vh vv,args= #[.agg #[vh,vv]]/\X.ownsRow n 9 1 vh r.head.args.length ((r.head.args.map (qcs b)).map .string)/\X.ownsRow n 9 1 vv vars.length ((vars.map fun x=>(b x).getD ⟨#[]⟩).map .string)/\
  (∀k,vh.ownBlock=some k->g.free k)/\(∀k,vv.ownBlock=some k->g.free k)/\(∀k,vh.ownBlock=some k->vv.ownBlock≠some k)
structure qdv (n0 n1:Nat)(W0:World)(c:WkC)(LJ:qa7)(U:Nat->Prop)(nU:Nat)(Vw:World->Prop)(all:List Asg)(Jp Jx:Nat->Gh->World->Prop):Prop where
 hJ: ∀k γ X γ' Y,Jp k γ X->(qk8 n0).istep γ X γ' Y->Jp k γ' Y
 hJx: ∀k γ X γ' Y,Jx k γ X->(qk8 n0).istep γ X γ' Y->Jx k γ' Y
 hy: ∀k γ X0 X args b,all[k]?=some b->Jp k γ X0->(qk8 n0).istep γ X0 γ X->GInv γ X->Vw X->n1<=X0.heap.size->qkn c.r c.vars b γ X0.heap.size X args->YieldAt Fence.wide 0 prog c.l args X (qhp (qk8 n0) Vw Jp Jx k γ X)
 hj:JoinAt U nU W0 c.J c.r c.vars c.pos c.vha c.vb c.vv c.va c.vt c.vh
 hV: ∀X,Vw X->(∀b,U b->X.heap[b]?=W0.heap[b]?)/\nU<=X.heap.size
 hVk: ∀X Y C,Vw X->Keep C X Y->(∀b,U b->C b)->Vw Y
 hU: ∀b,U b->b<nU
 n01:n0<=n1
 nV:n0<=c.V
 nK:n0<=c.K
 few:c.vars.length<=1073741824
 nodup:c.vars.Nodup
 kinds:qio c.r.body
 vin: ∀L t,L∈c.r.body->t∈qv L->qe6 c.vars t
 hin: ∀t,t∈c.r.head.args->qe6 c.vars t
 small: ∀L t,L∈c.r.body->t∈qv L->t.text.size<=1073741824
 preds: ∀L,L∈c.r.body->L.atom.pred.size<=1073741824
 looks:c.looks.length=c.r.body.length
 lfew:c.looks.length<=1073741824
 steps: ∀i,i∈c.steps->i<c.r.body.length
 sfew:c.steps.length<=1073741824
 texts: ∀i t s,t∈LJ.pos i->s∈t->s.size<=1073741824
def SameW (c:WkC)(U:Nat->Prop)(g:Gh)(W0 X:World):Prop:=(∀b o,g.held b=some o->c.nv b->X.heap[b]?=some o)/\ ∀b,U b->X.heap[b]?=W0.heap[b]?
theorem SameW.of {c:WkC}{U:Nat->Prop}{g g':Gh}{W0 X:World}(hg:GInv g' X)(hh: ∀b o,g.held b=some o->c.nv b->g'.held b=some o)(hu: ∀b,U b->X.heap[b]?=W0.heap[b]?):SameW c U g W0 X:=⟨fun b o hb hn=>hg.hold b o (hh b o hb hn),hu⟩
theorem SameW.keep {c:WkC}{U:Nat->Prop}{g:Gh}{W0 X Y:World}{C:Nat->Prop}(h:SameW c U g W0 X)(hK:Keep C X Y)(h1: ∀b o,g.held b=some o->c.nv b->C b)(h2: ∀b,U b->C b)(hn: ∀b,U b->b<X.heap.size):SameW c U g W0 Y:=
 ⟨fun b o hb hn=>hK.heap (h.1 b o hb hn) (h1 b o hb hn),fun b hb=>(hK.block b (hn b hb) (h2 b hb)).trans (h.2 b hb)⟩
def StepEnd (c:WkC)(U:Nat->Prop)(Vw:World->Prop)(all:List Asg)(Jp Jx:Nat->Gh->World->Prop)(k0 m:Nat)(g:Gh)(W:World)(a:Asg)(kn:List Bool)(ans:Bool)(W':World):Prop:=
 ∃g' vals',GInv g' W'/\Vw W'/\(∀b,U b->g'.free b)/\W.heap.size<=W'.heap.size/\WkHeld c g' vals' kn/\(∀b o,g.held b=some o->c.nv b->g'.held b=some o)/\(∀S f,g.st S=some f-> ∃d,g'.st S=some (f++d))/\qdu c.vars vals' kn a/\
  ((ans=true/\Jp (k0+m) g' W')∨(ans=false/\ ∃k,k<all.length/\Jx k g' W'))
structure StepAt (n1:Nat)(c:WkC)(LJ:qa7)(U:Nat->Prop)(Vw:World->Prop)(all:List Asg)(Jp:Nat->Gh->World->Prop)(i k0:Nat)(g:Gh)(W:World)(a:Asg)(vals:List ByteArray)(kn:List Bool):Prop where
 inv:GInv g W
 v:Vw W
 u: ∀b,U b->g.free b
 held:WkHeld c g vals kn
 look:LookOk c LJ g
 asg:qdu c.vars vals kn a
 way:qgn c.r.body (c.steps.drop i) (fun x=> ∃v,a x=some v)
 full: ∀x,x∈c.vars->(∃v,a x=some v)∨x∈qw c.r.body (c.steps.drop i)
 told: ∀q b,(qbh LJ c.r.body (c.steps.drop i) a)[q]?=some b->all[k0+q]?=some b
 jp:Jp k0 g W
 n:n1<=W.heap.size
def qgt (n1:Nat)(c:WkC)(LJ:qa7)(U:Nat->Prop)(Vw:World->Prop)(all:List Asg)(Jp Jx:Nat->Gh->World->Prop)(i:Nat):Prop:=
 ∀k0 g W a vals kn,StepAt n1 c LJ U Vw all Jp i k0 g W a vals kn->
  Calls prog 88 (#[.int .i64 (i:Int)]++c.bound) W fun e W'=> ∃ans,e=.returned (.bool ans)/\StepEnd c U Vw all Jp Jx k0 (qbh LJ c.r.body (c.steps.drop i) a).length g W a kn ans W'
theorem WkHeld.vals {c:WkC}{g:Gh}{W:World}{vals:List ByteArray}{kn:List Bool}(h:WkHeld c g vals kn)(hg:GInv g W):ValsAt W c.Bv c.V vals:=⟨hg.hold _ _ h.v.1,hg.hold _ _ h.row⟩
theorem q2s {c:WkC}{vals:List ByteArray}{kn:List Bool}{a:Asg}(h:qdu c.vars vals kn a)(hin: ∀t,t∈c.r.head.args->qe6 c.vars t)(hf: ∀x,x∈c.vars-> ∃v,a x=some v):(c.r.head.args.map (qaw c.vars)).map (qeb vals)=c.r.head.args.map (qcs a):=by
 rw [map_map];refine map_congr_left fun t ht=>?_;have hk: ∃y,qy a t=some y:=by
  unfold qy;by_cases hv:t.var=true
  ·rw [if_pos hv];exact hf _ (hin t ht hv)
  ·rw [if_neg hv];exact⟨_,rfl⟩
 obtain⟨y,hy⟩:=hk;unfold qcs;rw [hy,Function.comp,qnk h (hin t ht) hy]
 rfl
end Go.Proofs
