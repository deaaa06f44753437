/- Parts of the proof. -/
import Derived.Test.YtnponcjnahicnaaGreatProg
import Derived.Test.YtnponcjnahicnaaGreatCmC
import Derived.Test.YtnponcjnahicnaaGreatHdToKp
set_option linter.unusedSimpArgs false
set_option linter.unusedVariables false
open Go.Proofs.Tryz(prog)
open List(append_nil filter_append foldl_append getD_eq_getElem?_getD getElem?_append_left getElem?_append_right getElem?_eq_getElem getElem?_map getElem?_take_of_lt length_append length_cons length_filter_le length_map length_nil length_range length_singleton length_take map_append map_congr_left mem_append mem_of_getElem? mem_singleton range_succ take_add_one take_length)
namespace Go.Proofs
open Go.RowKit Go.Ink Go.Flt R4 P16
def qbo (r:RuleD)(i:Nat):List ByteArray:=(r.body.take i).foldl (fun vs L=>qa8 vs (qv L)) (qa8 [] r.head.args)
theorem qih (r:RuleD){i:Nat}{L:LitD}(h:r.body[i]?=some L):qbo r (i+1)=qa8 (qbo r i) (qv L):=by
 unfold qbo;rw [take_add_one,h,foldl_append]
 rfl
def qdr (body:List LitD)(i:Nat):List Int:=((List.range i).filter fun j=>qbm body j==1).map fun j:Nat=>(j:Int)
theorem qo9 (body:List LitD)(i:Nat):qdr body (i+1)=qdr body i++if qbm body i=1 then [(i:Int)] else []:=by
 unfold qdr;rw [range_succ,filter_append,map_append];by_cases h:qbm body i=1
 ·simp [h]
 ·simp [h]
theorem qq8 (body:List LitD)(i:Nat):(qdr body i).length<=i:=by
 unfold qdr;rw [length_map];exact Nat.le_trans (length_filter_le _ _) (by rw [length_range];exact Nat.le_refl _)
def q21 (Z:Nat)(X:World)(ct:Value)(Ls:List LitD)(vars:List ByteArray):Prop:=
 ∃us:List Value,us.length=Ls.length/\X.ownsRow Z 88 1 ct us.length us/\ ∀(k:Nat) (u:Value) (L:LitD),us[k]?=some u->Ls[k]?=some L->X.ownsRow Z 93 2 u (qv L).length (((qv L).map (qaw vars)).flatMap qfi)
structure CmSt (Z:Nat)(X:World)(Bm M Bjj J:Nat)(c0 c1 c2 vv ca ct ch:Value)(r:RuleD)(vars:List ByteArray)(i k:Nat):Prop where
 cm:CmAt X Bm M Bjj J c0 c1 c2 vv ca ct ch vars
 z:Z<=J/\Z<=M/\ ∀b,vv.ownBlock=some b->Z<=b
 pos:X.ownsRow Z 3 1 ca (qdr r.body k).length ((qdr r.body k).map (.int .i64))
 acc:q21 Z X ct (r.body.take i) vars
 head:X.ownsRow Z 93 2 ch r.head.args.length ((r.head.args.map (qaw vars)).flatMap qfi)
 hv: ∀t,t∈r.head.args->qe6 vars t
 lv: ∀L t,L∈r.body.take i->t∈qv L->qe6 vars t
theorem qey {w:World}{base:Nat}{e:TypeId}{sz n:Nat}{v:Value}{xs:List Value}(h:w.ownsRow base e sz v n xs){b:Nat}{vs:Array Value}{t:TypeId}{fr:Nat×Nat}(hb:w.heap[b]?=some (.cells vs t fr))(ht:e≠t):v.ownBlock≠some b:=fun he=>by
 obtain⟨cs,hcs⟩:=qav h he;rw [hb]at hcs;injection hcs with hcs
 injection hcs with _ h2 _
 exact ht h2.symm
theorem qmj {w:World}{base:Nat}{e:TypeId}{sz n:Nat}{v:Value}{xs:List Value}(h:w.ownsRow base e sz v n xs){b:Nat}{m:List (ByteArray×Nat)}(hb:qqj w b m):v.ownBlock≠some b:=fun he=>by
 obtain⟨cs,hcs⟩:=qav h he;obtain⟨es,c,hm,_⟩:=hb;rw [hm]at hcs;cases hcs
theorem qj9 {w w':World}{Bm M Bjj J:Nat}{c0 c1 c2 vv ca ct ch:Value}{vars:List ByteArray}(h:CmAt w Bm M Bjj J c0 c1 c2 vv ca ct ch vars)(hK:Keep (fun b=>b≠J/\b≠M/\vv.ownBlock≠some b) w w'){base:Nat}{e:TypeId}{sz n:Nat}{v:Value}{xs:List Value}(ho:w.ownsRow base e sz v n xs)(h1:e≠90)(h2:e≠9):w'.ownsRow base e sz v n xs:=
 qg ho hK fun b hb=>⟨fun e=>by subst e;exact qey ho h.box h1 hb,fun e=>by subst e;exact qmj ho h.nums hb,fun e=>qdg h.own ho (fun e=>h2 e.symm) e hb⟩
theorem CmSt.slots {Z:Nat}{X Y:World}{Bm M Bjj J:Nat}{c0 c1 c2 vv vv' ca ct ch:Value}{r:RuleD}{i k:Nat}{L:LitD}(h:CmSt Z X Bm M Bjj J c0 c1 c2 vv ca ct ch r (qbo r i) i k)(hL:r.body[i]?=some L)(hz:Z<=X.heap.size)
  (hC:CmAt Y Bm M Bjj J c0 c1 c2 vv' ca ct ch (qa8 (qbo r i) (qv L))) (hK:Keep (fun b=>b≠J/\b≠M/\vv.ownBlock≠some b) X Y) (hvv: ∀b,vv'.ownBlock=some b->vv.ownBlock=some b∨X.heap.size<=b):CmSt Z Y Bm M Bjj J c0 c1 c2 vv' ca ct ch r (qbo r (i+1)) i k:=by
 have e:=qih r hL;have hin: ∀t,qe6 (qbo r i) t->qe6 (qbo r (i+1)) t:=fun t ht hv=>by rw [e];exact(qdy _ _).1 _ (ht hv)
 have hsl: ∀ts:List TermD,(∀t,t∈ts->qe6 (qbo r i) t)->ts.map (qaw (qbo r (i+1)))=ts.map (qaw (qbo r i)):=fun ts ht=>map_congr_left fun t h=>by rw [e];exact qre (ht t h)
 refine⟨by rw [e];exact hC,⟨h.z.1,h.z.2.1,fun b hb=>(hvv b hb).elim (h.z.2.2 b) (fun h=>by omega)⟩,qj9 h.cm hK h.pos (by decide) (by decide),?_,?_,fun t ht=>hin t (h.hv t ht),fun L' t hL' ht=>hin t (h.lv L' t hL' ht)⟩
 ·obtain⟨us,h1,h2,h3⟩:=h.acc;refine⟨us,h1,qj9 h.cm hK h2 (by decide) (by decide),fun k u L' hu hL'=>?_⟩;rw [hsl _ (fun t ht=>h.lv L' t (mem_of_getElem? hL') ht)];exact qj9 h.cm hK (h3 k u L' hu hL') (by decide) (by decide)
 ·rw [hsl _ h.hv];exact qj9 h.cm hK h.head (by decide) (by decide)
theorem CmSt.all {Z:Nat}{X Y:World}{Bm M Bjj J:Nat}{c0 c1 c2 vv ca ct ch:Value}{r:RuleD}{vars:List ByteArray}{i k:Nat}(h:CmSt Z X Bm M Bjj J c0 c1 c2 vv ca ct ch r vars i k)(hK:Keep (fun _=>True) X Y):CmSt Z Y Bm M Bjj J c0 c1 c2 vv ca ct ch r vars i k:=by
 refine⟨h.cm.all hK,h.z,qg h.pos hK (fun _ _=>trivial),?_,qg h.head hK (fun _ _=>trivial),h.hv,h.lv⟩;obtain⟨us,h1,h2,h3⟩:=h.acc;exact⟨us,h1,qg h2 hK (fun _ _=>trivial),fun k u L hu hL=>qg (h3 k u L hu hL) hK (fun _ _=>trivial)⟩
theorem CmSt.term {Z:Nat}{X:World}{Bm M Bjj J:Nat}{c0 c1 c2 vv ca ch vo:Value}{at':Option Addr}{nt cct:Nat}{r:RuleD}{i k:Nat}{L:LitD}(h:CmSt Z X Bm M Bjj J c0 c1 c2 vv ca (.slice at' nt cct) ch r (qbo r (i+1)) i k)(hL:r.body[i]?=some L)(hil:i<=1073741824)
  (ho:X.ownsRow Z 93 2 vo (qv L).length (((qv L).map (qaw (qbo r (i+1)))).flatMap qfi)) (hz:Z<=X.heap.size) (h1:vo.oneCell'=true):
  nt=i/\ ∃Y g cap,(Builtin.append_ #[87,87] 87 #[.slice at' nt cct,.slice (some ⟨X.heap.size,0,none⟩) 1 1]).run prog (X.alloc (.cells #[vo] 88))=.ok (.slice (some ⟨g,0,none⟩) (nt+1) cap) Y/\g<Y.heap.size/\X.heap.size<=Y.heap.size/\Keep (fun b=>b<Z) X Y/\
   (∀(b:Nat) (vs:Array Value) (t:TypeId),X.heap[b]?=some (.cells vs t (0,0))->t≠88->Y.heap[b]?=some (.cells vs t (0,0)))/\
   CmSt Z (Y.setCell ⟨J,5,none⟩ (.slice (some ⟨g,0,none⟩) (nt+1) cap)) Bm M Bjj J c0 c1 c2 vv ca (.slice (some ⟨g,0,none⟩) (nt+1) cap) ch r (qbo r (i+1)) (i+1) k:=by
 obtain⟨us,e1,e2,e3⟩:=h.acc;have hil2:i<r.body.length:=(List.getElem?_eq_some_iff.1 hL).1;have hul:us.length=i:=by rw [e1,length_take];omega
 obtain⟨a',c',hf⟩:=qi e2;injection hf with hf1 hf2 hf3
 have hnt:nt=i:=by rw [hf2,hul]
 subst hf1;subst hf3;rw [hul]at e2;subst hnt;have el:qce prog 87 88 1 24:=qcx (z:=.slice none 0 0) (by kernel_rfl) (by kernel_rfl) rfl (by decide) (by decide);obtain⟨v',Y,hr,hoY,kY,g,cap,hv,hgo,hg⟩:=qc4 (P:=prog) el 87 e2 [vo] rfl (by simpa using h1) (by omega) (by omega);subst hv;have hkb: ∀(b:Nat) (vs:Array Value) (t:TypeId),X.heap[b]?=some (.cells vs t (0,0))->t≠88->Y.heap[b]?=some (.cells vs t (0,0)):=fun b vs t hb ht=>kY.heap hb (fun e=>qey e2 hb (fun e=>ht e.symm) e.symm);have hko: ∀{base:Nat} {e:TypeId} {sz n:Nat} {v:Value} {xs:List Value},X.ownsRow base e sz v n xs->e≠88->Y.ownsRow base e sz v n xs:=fun h1 h2=>qg h1 kY (fun b hb e=>qdg h1 e2 h2 hb e.symm);have hCY:CmAt Y Bm M Bjj J c0 c1 c2 vv ca (.slice at' nt cct) ch (qbo r (nt+1)):=⟨hkb _ _ _ h.cm.bm (by decide),h.cm.nums.keep kY (fun e=>qmj e2 h.cm.nums e.symm),hkb _ _ _ h.cm.bj (by decide),hkb _ _ _ h.cm.box (by decide),hko h.cm.own (by decide)⟩;obtain⟨⟨n1,n2,n3,n4,n5⟩,nvv⟩:=hCY.apart;have kJ:Keep (fun b=>b≠J) Y (Y.setCell ⟨J,5,none⟩ (.slice (some ⟨g,0,none⟩) (nt+1) cap)):=kSc;have hJo: ∀{base:Nat} {e:TypeId} {sz n:Nat} {v:Value} {xs:List Value},Y.ownsRow base e sz v n xs->e≠90->(Y.setCell ⟨J,5,none⟩ (.slice (some ⟨g,0,none⟩) (nt+1) cap)).ownsRow base e sz v n xs:=fun h1 h2=>qg h1 kJ (fun b hb e=>by subst e;exact qey h1 hCY.box h2 hb);refine⟨rfl,Y,g,cap,hr,hg,kY.size,kY.mono fun b _ (hb:b<Z) e=>by have:=(World.ownsRow.lt e2 b e.symm).1;omega,hkb,⟨⟨kJ.heap hCY.bm n4,hCY.nums.keep kJ n3.symm,kJ.heap hCY.bj n5,q8 5 _ hCY.box,qg hCY.own kJ (fun b hb=>(nvv b hb).2.2.2)⟩,h.z,hJo (hko h.pos (by decide)) (by decide),?_,hJo (hko h.head (by decide)) (by decide),h.hv,fun L' t hL' ht=>?_⟩⟩
 ·refine⟨us++ [vo],by rw [length_append,e1,length_take,length_take];simp only [length_cons,length_nil];omega,?_,fun k' u L' hu hL'=>?_⟩
  ·rw [length_append,length_singleton,hul];exact hJo hoY (by decide)
  ·by_cases hk':k'<us.length
   ·rw [getElem?_append_left hk']at hu;rw [getElem?_take_of_lt (by omega)]at hL';exact hJo (hko (e3 k' u L' hu (by rw [getElem?_take_of_lt (by omega)];exact hL')) (by decide)) (by decide)
   ·have hke:k'=nt:=by
     have:=(List.getElem?_eq_some_iff.1 hL').1;rw [length_take]at this;omega
    subst hke;rw [getElem?_append_right (by omega),hul,Nat.sub_self]at hu;cases hu;rw [getElem?_take_of_lt (by omega),hL]at hL';cases hL';exact hJo (hko ho (by decide)) (by decide)
 ·rw [take_add_one,hL]at hL';rcases mem_append.1 hL' with hL' |hL'
  ·exact h.lv L' t hL' ht
  ·simp only [Option.toList_some,mem_singleton]at hL';subst hL';intro hv;rw [qih r hL];exact(qdy _ _).2.2.2.1 t ht hv
theorem CmSt.at {Z:Nat}{X:World}{Bm M Bjj J:Nat}{c0 c1 c2 vv ct ch:Value}{aa:Option Addr}{na cca:Nat}{r:RuleD}{vars:List ByteArray}{i:Nat}(h:CmSt Z X Bm M Bjj J c0 c1 c2 vv (.slice aa na cca) ct ch r vars i i)(hil:i<=1073741824)(hk:qbm r.body i=1)(hz:Z<=X.heap.size):
  ∃Y g cap,(Builtin.append_ #[86,86] 86 #[.slice aa na cca,.slice (some ⟨X.heap.size,0,none⟩) 1 1]).run prog (X.alloc (.cells #[.int .i64 (i:Int)] 3))=.ok (.slice (some ⟨g,0,none⟩) (na+1) cap) Y/\g<Y.heap.size/\X.heap.size<=Y.heap.size/\Keep (fun b=>b<Z) X Y/\
   (∀(b:Nat) (vs:Array Value) (t:TypeId),X.heap[b]?=some (.cells vs t (0,0))->t≠3->Y.heap[b]?=some (.cells vs t (0,0)))/\
   CmSt Z (Y.setCell ⟨J,4,none⟩ (.slice (some ⟨g,0,none⟩) (na+1) cap)) Bm M Bjj J c0 c1 c2 vv (.slice (some ⟨g,0,none⟩) (na+1) cap) ct ch r vars i (i+1):=by
 obtain⟨a',c',hf⟩:=qi h.pos;injection hf with hf1 hf2 hf3
 subst hf1;subst hf3;subst hf2;have hpl:=qq8 r.body i;obtain⟨v',Y,hr,hoY,kY,g,cap,hv,hgo,hg⟩:=qc4 (P:=prog) qk9 86 h.pos [.int .i64 (i:Int)] rfl (by simp [Value.oneCell']) (by omega) (by omega);subst hv;have e2:=h.pos;have hkb: ∀(b:Nat) (vs:Array Value) (t:TypeId),X.heap[b]?=some (.cells vs t (0,0))->t≠3->Y.heap[b]?=some (.cells vs t (0,0)):=fun b vs t hb ht=>kY.heap hb (fun e=>qey e2 hb (fun e=>ht e.symm) e.symm);have hko: ∀{base:Nat} {e:TypeId} {sz n:Nat} {v:Value} {xs:List Value},X.ownsRow base e sz v n xs->e≠3->Y.ownsRow base e sz v n xs:=fun h1 h2=>qg h1 kY (fun b hb e=>qdg h1 e2 h2 hb e.symm);have hCY:CmAt Y Bm M Bjj J c0 c1 c2 vv (.slice aa (qdr r.body i).length cca) ct ch vars:=⟨hkb _ _ _ h.cm.bm (by decide),h.cm.nums.keep kY (fun e=>qmj e2 h.cm.nums e.symm),hkb _ _ _ h.cm.bj (by decide),hkb _ _ _ h.cm.box (by decide),hko h.cm.own (by decide)⟩;obtain⟨⟨n1,n2,n3,n4,n5⟩,nvv⟩:=hCY.apart;have kJ:Keep (fun b=>b≠J) Y (Y.setCell ⟨J,4,none⟩ (.slice (some ⟨g,0,none⟩) ((qdr r.body i).length+1) cap)):=kSc;have hJo: ∀{base:Nat} {e:TypeId} {sz n:Nat} {v:Value} {xs:List Value},Y.ownsRow base e sz v n xs->e≠90->(Y.setCell ⟨J,4,none⟩ (.slice (some ⟨g,0,none⟩) ((qdr r.body i).length+1) cap)).ownsRow base e sz v n xs:=fun h1 h2=>qg h1 kJ (fun b hb e=>by subst e;exact qey h1 hCY.box h2 hb);refine⟨Y,g,cap,hr,hg,kY.size,kY.mono fun b _ (hb:b<Z) e=>by have:=(World.ownsRow.lt e2 b e.symm).1;omega,hkb,⟨⟨kJ.heap hCY.bm n4,hCY.nums.keep kJ n3.symm,kJ.heap hCY.bj n5,q8 4 _ hCY.box,qg hCY.own kJ (fun b hb=>(nvv b hb).2.2.2)⟩,h.z,?_,?_,hJo (hko h.head (by decide)) (by decide),h.hv,h.lv⟩⟩
 ·rw [qo9,if_pos hk,length_append,map_append];exact hJo hoY (by decide)
 ·obtain⟨us,e1,e4,e3⟩:=h.acc;exact⟨us,e1,hJo (hko e4 (by decide)) (by decide),fun k u L hu hL=>hJo (hko (e3 k u L hu hL) (by decide)) (by decide)⟩
theorem CmSt.notpos {Z:Nat}{X:World}{Bm M Bjj J:Nat}{c0 c1 c2 vv ca ct ch:Value}{r:RuleD}{vars:List ByteArray}{i j:Nat}(h:CmSt Z X Bm M Bjj J c0 c1 c2 vv ca ct ch r vars j i)(hk:qbm r.body i≠1):CmSt Z X Bm M Bjj J c0 c1 c2 vv ca ct ch r vars j (i+1):=by
 have e:qdr r.body (i+1)=qdr r.body i:=by rw [qo9,if_neg hk,append_nil]
 exact⟨h.cm,h.z,by rw [e];exact h.pos,h.acc,h.head,h.hv,h.lv⟩
theorem qjc {α:Type}{U:Nat->Prop}{w:World}{base:Nat}{e:TypeId}{sz:Nat}{v:Value}{n:Nat}{xs:List Value}(h:w.ownsRow base e sz v n xs)(ds:List α)(hn:n=ds.length)(hb:ds.length<=1073741824)(hU: ∀b,base<=b->b<w.heap.size->U b)
  (E:World->Nat->Nat->α->Prop) (hE: ∀b k d,ds[k]?=some d->(∀j,j<sz->w.cell? ⟨b,k*sz+j,none⟩=xs[k*sz+j]?)->E w b (k*sz) d):SliceIn w.heap.size w sz (fun w b o x=>U b/\E w b o x) v ds:=by
 obtain⟨a,c,hv,h1,h2,h3⟩:=qdx h ds hn hb E hE;refine⟨a,c,hv,h1,h2,fun k x hk=>?_⟩;obtain⟨b,o,ha,hlt,hx⟩:=h3 k x hk;subst ha;have hl:=World.ownsRow.lt h b (by rw [hv];rfl);exact⟨b,o,rfl,hlt,hU b hl.1 hl.2,hx⟩
theorem qmk {body:List LitD}{i:Nat}{L:LitD}(h:body[i]?=some L):qbm body i=L.kind:=by unfold qbm;rw [getD_eq_getElem?_getD,h];rfl
theorem CmSt.join {Z N:Nat}{X:World}{Bm M Bjj J:Nat}{vh vb vv ca ct ch:Value}{r:RuleD}(hZ:N<=Z)(h:CmSt Z X Bm M Bjj J (.string r.head.pred) vh vb vv ca ct ch r (qbo r r.body.length) r.body.length r.body.length)(hown:RuleOwn N 64 60 X vh vb r)(hs:qua r)(hl:(qbo r r.body.length).length<=1073741824)(hlt: ∀L,L∈r.body->(qv L).length<=1073741824):
  JoinAt (fun b=>N<=b/\b<X.heap.size) X.heap.size X J r (qbo r r.body.length) (qdr r.body r.body.length) vh vb vv ca ct ch:=by
 have hterm: ∀{base:Nat} {v:Value} {m:Nat} {ts:List TermD},N<=base->X.ownsRow base 60 2 v m (qac ts)->m=ts.length->ts.length<=1073741824->SliceIn X.heap.size X 2 (UE (fun b=>N<=b/\b<X.heap.size) TermE) v ts:=fun hb h1 h2 h3=>
  qjc h1 _ h2 h3 (fun b q1 q2=>⟨Nat.le_trans hb q1,q2⟩) TermE fun b k t ht hc=>by
   have hk: ∀j,j<2->(qac _)[k*2+j]?=([Value.bool t.var,.string t.text]:List Value)[j]?:=fun j hj=>qbc _ 2 (fun _=>rfl) _ k j t ht hj;exact⟨by have:=hc 0 (by omega);rw [hk 0 (by omega)] at this;exact this,by have:=hc 1 (by omega);rw [hk 1 (by omega)] at this;exact this⟩
 have hslot: ∀{v:Value} {m:Nat} {ss:List SlotD},X.ownsRow Z 93 2 v m (ss.flatMap qfi)->m=ss.length->ss.length<=1073741824->SliceIn X.heap.size X 2 (UE (fun b=>N<=b/\b<X.heap.size) SlotE) v ss:=fun h1 h2 h3=>
  qjc h1 _ h2 h3 (fun b q1 q2=>⟨Nat.le_trans hZ q1,q2⟩) SlotE fun b k t ht hc=>by
   have hk: ∀j,j<2->(List.flatMap qfi _)[k*2+j]?=([Value.int .i64 t.place,.string t.text]:List Value)[j]?:=fun j hj=>qbc _ 2 (fun _=>rfl) _ k j t ht hj;exact⟨by have:=hc 0 (by omega);rw [hk 0 (by omega)] at this;exact this,by have:=hc 1 (by omega);rw [hk 1 (by omega)] at this;exact this⟩
 have hpl:=qq8 r.body r.body.length;have hbl:r.body.length<=1073741824:=hs.2.1;refine⟨⟨Nat.le_trans hZ h.z.1,qe h.cm.box⟩,h.cm.box,hterm (Nat.le_refl _) hown.1 rfl hs.1,?_,?_,?_,?_,hslot h.head (by rw [length_map]) (by rw [length_map];exact hs.1)⟩
 ·obtain⟨ps,h1,h2,h3⟩:=hown.2;have hpl2:ps.length=r.body.length:=by rw [←h1,length_map]
  refine qjc h2 _ rfl hbl (fun b q1 q2=>⟨q1,q2⟩) _ fun b k L hL hc=>?_;obtain⟨p,hp⟩: ∃p,ps[k]?=some p:=⟨_,getElem?_eq_getElem (by rw [hpl2];exact(List.getElem?_eq_some_iff.1 hL).1)⟩;have hpL:p.1=L:=by rw [←h1,getElem?_map,hp] at hL;exact Option.some.inj hL
  subst hpL;have hk: ∀j,j<7->(ps.flatMap qc2)[k*7+j]?=(qaf p.1 p.2)[j]?:=fun j hj=>qbc qc2 7 (fun _=>rfl) _ k j p hp hj;refine⟨p.2,fun j v hj=>?_,hterm (Nat.le_refl _) (h3 p (mem_of_getElem? hp)) rfl (hs.2.2 _ (mem_of_getElem? hL))⟩;have hj7:j<7:=(List.getElem?_eq_some_iff.1 hj).1;rw [hc j hj7,hk j hj7,hj]
 ·have hv:X.ownsRow Z 9 1 vv (qbo r r.body.length).length ((qbo r r.body.length).map .string):=by
   refine⟨h.cm.own.1,?_⟩;rcases h.cm.own.2 with e |⟨g,cap,cur,e1,e2,e3⟩
   ·exact .inl e
   ·exact .inr ⟨g,cap,cur,e1,h.z.2.2 g (by rw [e1];rfl),e3⟩
  refine qjc hv _ rfl hl (fun b q1 q2=>⟨Nat.le_trans hZ q1,q2⟩) qgc fun b k d hd hc=>?_;have:=hc 0 (by omega);simp only [Nat.mul_one,Nat.add_zero]at this⊢;rw [qgc,this];simp [hd]
 ·refine qjc h.pos _ rfl (by omega) (fun b q1 q2=>⟨Nat.le_trans hZ q1,q2⟩) qfr fun b k d hd hc=>?_;have:=hc 0 (by omega);simp only [Nat.mul_one,Nat.add_zero]at this⊢;rw [qfr,this];simp [hd]
 ·obtain⟨us,e1,e2,e3⟩:=h.acc;rw [take_length]at e1 e3;refine qjc e2 _ (by rw [length_map];exact e1) (by rw [length_map];exact hbl) (fun b q1 q2=>⟨Nat.le_trans hZ q1,q2⟩) _ fun b k d hd hc=>?_;rw [getElem?_map]at hd;obtain⟨L,hL,rfl⟩:=Option.map_eq_some_iff.1 hd;obtain⟨u,hu⟩: ∃u,us[k]?=some u:=⟨_,getElem?_eq_getElem (by rw [e1];exact(List.getElem?_eq_some_iff.1 hL).1)⟩;have hc0:=hc 0 (by omega);simp only [Nat.mul_one,Nat.add_zero]at hc0⊢;refine⟨u,by rw [hc0];exact hu,?_⟩;unfold qco;exact hslot (e3 k u L hu hL) (by rw [length_map]) (by rw [length_map];exact hlt L (mem_of_getElem? hL))
end Go.Proofs
