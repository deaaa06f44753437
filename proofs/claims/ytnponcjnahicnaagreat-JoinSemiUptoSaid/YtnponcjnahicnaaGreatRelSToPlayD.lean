/- Parts of the proof. -/
import Derived.Test.YtnponcjnahicnaaGreatProg
import Derived.Test.YtnponcjnahicnaaGreatRelQToRelR
import Derived.Test.YtnponcjnahicnaaGreatMapsToRelG
import Derived.Test.YtnponcjnahicnaaGreatHdToKp
import Derived.Test.YtnponcjnahicnaaGreatHoistToRowC
import Derived.Test.YtnponcjnahicnaaGreatRelOToRelP
set_option linter.unusedSimpArgs false
set_option linter.unusedVariables false
open Go.Proofs.Tryz(prog)
open List(all_eq_true append_assoc append_toArray cons_append drop_eq_getElem_cons ext_getElem? filter_append filter_congr filter_cons filter_eq_nil_iff filter_filter find?_eq_none getD_eq_getElem?_getD getElem?_append_left getElem?_append_right getElem?_drop getElem?_eq_getElem getElem?_eq_none getElem?_map getElem_mem length_cons length_nil mem_filter mem_iff_getElem? mem_of_getElem? mem_range nil_append pairwise_iff_getElem pairwise_lt_range push_toArray singleton_append size_toArray take_add_one take_append_drop take_length)
namespace Go.Proofs.R4
open Go.RowKit Go.Ink
attribute [local go_sem] Oper.semAt_some
structure qeo where
 tag:qb2
 ts:List (List Int)
 vD:Value
 lm:List (List Bool×Nat)
structure RelInv (B n P K:Nat)(s:qeo)(w:World):Prop where
 own:qb6 s.tag w B n s.ts s.vD P K s.lm
 few:s.ts.length<=67108864
structure qsz (B n P K:Nat)(s:qeo)(X:World)(s':qeo)(Y:World):Prop where
 keep:Keep (fun b=>s.tag b=none) X Y
 same:s'.ts=s.ts
 le:TagLe s.tag s'.tag
 new:TagNew s.tag s'.tag X
 sub: ∀p,p∈s.lm->p∈s'.lm
 inv:RelInv B n P K s' Y
structure RelBd (s:qeo)(m:Nat)(s':qeo):Prop where
 more: ∃us,s'.ts=s.ts++us
 le:TagLe s.tag s'.tag
 new: ∀b T,s'.tag b=some T->(∃T',s.tag b=some T')∨m<=b
 sub: ∀p,p∈s.lm->p∈s'.lm
theorem RelBd.refl (s:qeo)(m:Nat):RelBd s m s:=⟨⟨[],by simp⟩,TagLe.refl _,fun b T h=>.inl ⟨T,h⟩,fun _ h=>h⟩
theorem RelBd.mono {s s':qeo}{m m0:Nat}(h:RelBd s m s')(hm:m0<=m):RelBd s m0 s':=⟨h.more,h.le,fun b T hb=>(h.new b T hb).imp id (fun h=>by omega),h.sub⟩
theorem RelBd.trans {s s' s'':qeo}{m m':Nat}(h:RelBd s m s')(g:RelBd s' m' s'')(hm:m<=m'):RelBd s m s'':=by
 obtain⟨u,hu⟩:=h.more;obtain⟨v,hv⟩:=g.more;refine⟨⟨u++v,by rw [hv,hu,append_assoc]⟩,h.le.trans g.le,fun b T hb=>?_,fun p hp=>g.sub p (h.sub p hp)⟩;rcases g.new b T hb with ⟨T',h1⟩ |h1
 ·exact h.new b T' h1
 ·exact .inr (by omega)
theorem RelInv.keep {B n P K:Nat}{s:qeo}{X Y:World}(h:RelInv B n P K s X)(hK:Keep (fun b=> ¬s.tag b=none) X Y):RelInv B n P K s Y:=⟨h.own.keep hK (fun b T hb _ e=>by rw [hb] at e;cases e),h.few⟩
theorem qy3 {B n P K:Nat}{s:qeo}{X Y:World}(h:RelInv B n P K s X)(hK:Keep (fun _=>True) X Y):qsz B n P K s X s Y:=⟨hK.mono fun _ _ _=>trivial,rfl,TagLe.refl _,TagNew.refl _ _,fun _ h=>h,h.keep (hK.mono fun _ _ _=>trivial)⟩
def qe5 (B n P K:Nat):qf8 qeo where
 inv:=RelInv B n P K
 free s b:=s.tag b=none
 istep:=qsz B n P K
 bstep:=RelBd
 ifree h:=h.keep
 inew:=fun {s X s' Y} h b hb hf=>by
  cases hT:s'.tag b with
  |none=>rfl
  |some T=>
   rcases h.new b T hT with ⟨T',h1⟩ |h1
   ·rw [hf]at h1;cases h1
   ·omega
 bnew:=fun {s m s'} h b hb hf=>by
  cases hT:s'.tag b with
  |none=>rfl
  |some T=>
   rcases h.new b T hT with ⟨T',h1⟩ |h1
   ·rw [hf]at h1;cases h1
   ·omega
 bmono hm h:=h.mono hm
 invk h hK:=h.keep hK
def q7q (i:Nat)(t:List Int)(m:Nat)(X:World)(args:Array Value):Prop:=
 ∃v,args= #[.int .i64 (i:Int),v]/\X.ownsRow m 3 1 v t.length (t.map (.int .i64))/\t.length<=1073741824
def BoxAt (w:World)(b t:Nat)(v:Value):Prop:=w.heap[b]?=some (.cells #[v] t (0,0))
theorem BoxAt.keep {w w':World}{b t:Nat}{v:Value}{C:Nat->Prop}(h:BoxAt w b t v)(hK:Keep C w w')(hC:C b):BoxAt w' b t v:=hK.heap h hC
theorem BoxAt.cell {w:World}{b t:Nat}{v:Value}(h:BoxAt w b t v):w.cell? ⟨b,0,none⟩=some v:=qbn h
theorem BoxAt.lt {w:World}{b t:Nat}{v:Value}(h:BoxAt w b t v):b<w.heap.size:=qe h
structure MatchV (n0 n1 bR bL bK bT bF B:Nat)(vl vk:Value)(lo hi:Int)(cols key:List Int)(w:World):Prop where
 r:BoxAt w bR 123 (.pointer (some ⟨B,0,none⟩))
 l:BoxAt w bL 86 vl
 k:BoxAt w bK 86 vk
 t:BoxAt w bT 3 (.int .i64 hi)
 f:BoxAt w bF 3 (.int .i64 lo)
 ol:w.ownsRow n0 3 1 vl cols.length (cols.map (.int .i64))
 ok:w.ownsRow n0 3 1 vk key.length (key.map (.int .i64))
 bl: ∀b,vl.ownBlock=some b->b<n1
 bk: ∀b,vk.ownBlock=some b->b<n1
 at':(n0<=bR/\bR<n1)/\(n0<=bL/\bL<n1)/\(n0<=bK/\bK<n1)/\(n0<=bT/\bT<n1)/\(n0<=bF/\bF<n1)
theorem MatchV.keep {n0 n1 bR bL bK bT bF B:Nat}{vl vk:Value}{lo hi:Int}{cols key:List Int}{w w':World}{C:Nat->Prop}(h:MatchV n0 n1 bR bL bK bT bF B vl vk lo hi cols key w)(hK:Keep C w w')(hC: ∀b,n0<=b->b<n1->C b):MatchV n0 n1 bR bL bK bT bF B vl vk lo hi cols key w':=by
 obtain⟨a1,a2,a3,a4,a5⟩:=h.at';exact⟨h.r.keep hK (hC _ a1.1 a1.2),h.l.keep hK (hC _ a2.1 a2.2),h.k.keep hK (hC _ a3.1 a3.2),h.t.keep hK (hC _ a4.1 a4.2),h.f.keep hK (hC _ a5.1 a5.2),
  qg h.ol hK (fun b hb=>hC b (World.ownsRow.lt h.ol b hb).1 (h.bl b hb)),qg h.ok hK (fun b hb=>hC b (World.ownsRow.lt h.ok b hb).1 (h.bk b hb)),h.bl,h.bk,h.at'⟩
set_option maxRecDepth 100000 in
set_option maxHeartbeats 2000000 in
theorem qun (w:World)(B m:Nat)(vc vk:Value)(cols key:List Int)(lo hi:Int)(hs:qap m w vc cols)(hsk:qap m w vk key)(hm:m<=w.heap.size):
  Calls prog 122 #[.pointer (some ⟨B,0,none⟩),vc,vk,.int .i64 lo,.int .i64 hi] w fun e w'=> ∃bR bL bK bT bF vl vk',
   e=.returned (.func (.func 152) #[] #[.pointer (some ⟨bR,0,none⟩),.pointer (some ⟨bL,0,none⟩),.pointer (some ⟨bK,0,none⟩),.pointer (some ⟨bT,0,none⟩),.pointer (some ⟨bF,0,none⟩)])/\
   Keep (fun _=>True) w w'/\MatchV w.heap.size w'.heap.size bR bL bK bT bF B vl vk' lo hi cols key w':=by
 obtain⟨a,cc,rfl,hlt,hct,het⟩:=id hs;obtain⟨ak,ck,rfl,hltk,hctk,hetk⟩:=id hsk;obtain⟨W0,hW0⟩:=ex (((w.alloc (.cells #[.pointer (some ⟨B,0,none⟩)] 123)).alloc (.cells #[.int .i64 lo] 3)).alloc (.cells #[.int .i64 hi] 3));have k0:Keep (fun _=>True) w W0:=by rw [←hW0];exact(kAl.trans kAl).trans kAl
 have z0:W0.heap.size=w.heap.size+3:=by rw [←hW0];simp
 have r0:BoxAt W0 w.heap.size 123 (.pointer (some ⟨B,0,none⟩)):=by rw [←hW0];unfold BoxAt;simp only [qah,World.size_alloc];simp<;>omega
 have f0:BoxAt W0 (w.heap.size+1) 3 (.int .i64 lo):=by rw [←hW0];unfold BoxAt;simp only [qah,World.size_alloc];simp<;>omega
 have t0:BoxAt W0 (w.heap.size+2) 3 (.int .i64 hi):=by rw [←hW0];unfold BoxAt;simp only [qah,World.size_alloc];simp<;>omega
 have app0: ∀(W:World) (a:Option Addr) (c:Nat) (l:List Int),l.length<=1073741824->qap m W (.slice a l.length c) l->m<=W.heap.size-> ∃a' c' W',(Builtin.append_ #[86,86] 86 #[.slice (some ⟨W.heap.size,0,none⟩) 0 0,.slice a l.length c]).run prog (W.alloc (.cells #[] 3))=.ok (.slice a' l.length c') W'/\
   W'.ownsRow W.heap.size 3 1 (.slice a' l.length c') l.length (l.map (.int .i64))/\Keep (fun _=>True) W W':=by
  intro W a c l hl hi hmW;have k1:Keep (fun _=>True) W (W.alloc (.cells #[] 3)):=kAl;have ho1:(W.alloc (.cells #[] 3)).ownsRow W.heap.size 3 1 (.slice (some ⟨W.heap.size,0,none⟩) 0 0) 0 []:=World.ownsRow_made W #[] 0 (Nat.le_refl _) (by simp [maxLen]) rfl;have hi1:=qd2 hi (m:=m) (k1.mono fun _ _ _=>trivial) (Nat.le_refl _);have hcl:=qf5 (sz:=1) ic (fun _=>rfl) (by omega) (E:=qfr) (fun b o x h j u hj=>by
   have hj0:j=0:=by have:=(List.getElem?_eq_some_iff.1 hj).1;simp [ic] at this;exact this
   subst hj0;simp [ic]at hj;subst hj;exact h) hi1 rfl
  obtain⟨va,W3,hr3,ho3,hg3,kw3⟩:=qji (P:=prog) qm3 86 ho1 a l.length c (l.flatMap ic) (qa0 _ 1 (fun _=>rfl) _) hcl.1 hcl.2 (qjk _ (by simp [ic,Value.oneCell']) _) (by omega) (by simp);rw [qm2,nil_append,Nat.zero_add]at ho3;obtain⟨a',c',rfl⟩:=qi ho3;exact⟨a',c',W3,hr3,ho3,((k1.mono fun _ _ _=>trivial).trans (kw3.mono (C':=fun b=>b<W.heap.size) fun b _ h e=>by have:=(World.ownsRow.lt ho3 b e).1;omega)).mono fun b hb _=>hb⟩
 have hs0:=qd2 hs (m:=m) (k0.mono fun _ _ _=>trivial) (Nat.le_refl _);obtain⟨al,cl,W2,hr2,ho2,k2⟩:=app0 W0 a cc cols hlt hs0 (by omega);have hz2:=k2.size;have hsk2:=qd2 (qd2 hsk (m:=m) (k0.mono fun _ _ _=>trivial) (Nat.le_refl _)) (m:=m) (k2.mono fun _ _ _=>trivial) (Nat.le_refl _);obtain⟨al',cl',W4,hr4,ho4,k4⟩:=app0 W2 ak ck key hltk hsk2 (by omega);have hz4:=k4.size;obtain⟨W5,hW5⟩:=ex ((W4.alloc (.cells #[.slice none 0 0] 86)).alloc (.cells #[.slice none 0 0] 86));have k5:Keep (fun _=>True) W4 W5:=by rw [←hW5];exact kAl.trans kAl
 have z5:W5.heap.size=W4.heap.size+2:=by rw [←hW5];simp
 have l5:BoxAt W5 W4.heap.size 86 (.slice none 0 0):=by rw [←hW5];unfold BoxAt;simp only [qah,World.size_alloc];simp<;>omega
 have v5:BoxAt W5 (W4.heap.size+1) 86 (.slice none 0 0):=by rw [←hW5];unfold BoxAt;simp only [qah,World.size_alloc];simp<;>omega
 obtain⟨W6,hW6⟩:=ex (W5.setCell ⟨W4.heap.size,0,none⟩ (.slice al cols.length cl));have l6:BoxAt W6 W4.heap.size 86 (.slice al cols.length cl):=by rw [←hW6];exact qgu _ l5
 have k6:Keep (fun b=>b≠W4.heap.size) W5 W6:=by rw [←hW6];exact kSc
 have v6:=v5.keep k6 (by omega);obtain⟨W7,hW7⟩:=ex (W6.setCell ⟨W4.heap.size+1,0,none⟩ (.slice al' key.length cl'));have v7:BoxAt W7 (W4.heap.size+1) 86 (.slice al' key.length cl'):=by rw [←hW7];exact qgu _ v6
 have k7:Keep (fun b=>b≠W4.heap.size+1) W6 W7:=by rw [←hW7];exact kSc
 have l7:=l6.keep k7 (by omega);have k47:Keep (fun b=>b<W4.heap.size) W4 W7:=(k5.mono fun _ _ _=>trivial).trans ((k6.mono fun b _ h=>by omega).trans (k7.mono fun b _ h=>by omega));have k07:Keep (fun _=>True) w W7:=((k0.mono fun _ _ _=>trivial).trans ((k2.mono fun _ _ _=>trivial).trans ((k4.mono fun _ _ _=>trivial).trans (k47.mono (C':=fun b=>b<w.heap.size) fun b _ h=>by omega)))).mono fun b hb _=>hb;have z7:W7.heap.size=W5.heap.size:=by rw [←hW7,←hW6];simp [World.setCell]
 have own2: ∀b,Value.ownBlock (.slice al cols.length cl)=some b->W0.heap.size<=b/\b<W2.heap.size:=fun b hb=>World.ownsRow.lt ho2 b hb;have own4: ∀b,Value.ownBlock (.slice al' key.length cl')=some b->W2.heap.size<=b/\b<W4.heap.size:=fun b hb=>World.ownsRow.lt ho4 b hb;have hV:MatchV w.heap.size W7.heap.size w.heap.size W4.heap.size (W4.heap.size+1) (w.heap.size+2) (w.heap.size+1) B (.slice al cols.length cl) (.slice al' key.length cl') lo hi cols key W7:=by
  have kk:Keep (fun b=>b<W0.heap.size) W0 W7:=(k2.mono fun _ _ _=>trivial).trans ((k4.mono fun _ _ _=>trivial).trans (k47.mono fun b _ h=>by omega));refine⟨r0.keep kk (by omega),l7,v7,t0.keep kk (by omega),f0.keep kk (by omega),?_,?_,fun b hb=>by have:=own2 b hb;omega,fun b hb=>by have:=own4 b hb;omega,⟨by omega,by omega⟩,⟨by omega,by omega⟩,⟨by omega,by omega⟩,⟨by omega,by omega⟩,by omega,by omega⟩
  ·have h1:=qg (qg ho2 k4 (fun _ _=>trivial)) k47 (fun b hb=>by have:=own2 b hb;omega);exact⟨h1.1,h1.2.imp id (fun⟨g,cap,cur,e1,e2,e3⟩=>⟨g,cap,cur,e1,by omega,e3⟩)⟩
  ·have h1:=qg ho4 k47 (fun b hb=>by have:=own4 b hb;omega);exact⟨h1.1,h1.2.imp id (fun⟨g,cap,cur,e1,e2,e3⟩=>⟨g,cap,cur,e1,by omega,e3⟩)⟩
 have cl5:=l5.cell;have cfl:=qf l5 0;have cv6:=v6.cell;have cfv:=qf v6 0;obtain⟨n0,hn0⟩:=ex (W0.heap.size);have hB4:W4.heap.size<W5.heap.size:=by omega
 have hB6:W4.heap.size+1<W6.heap.size:=v6.lt;clear app0 hs0 ho2 hsk2 ho4 l5 v5 l6 v6 v7 l7 k47 k7 k6 k5 own2 own4 z7 z5 hz2 hz4 k0 k2 k4 r0 f0 t0 z0;rw [hn0]at hr2;refine hd8 ?_ hs hsk het hetk hr2 hr4 hV k07;clear hs hsk het hetk hr2 hr4 hV k07;intro Xhs Xhsk Xhet Xhetk Xhr2 Xhr4 XhV Xk07
 go_enter Tryz.func122,Tryz.ntmps122
 go_wp2_with (first
  |(at_builtin;refine qcq (v:=.slice (some ⟨n0,0,none⟩) 0 0) (u:=.slice a cols.length cc) (v':=.slice al cols.length cl) (w':=W2) rfl (.tmp 13) (.tmp 14) 86 rfl rfl rfl Xhr2.o ?_)
  |(at_builtin;refine qcq (v:=.slice (some ⟨W2.heap.size,0,none⟩) 0 0) (u:=.slice ak key.length ck) (v':=.slice al' key.length cl') (w':=W4) rfl (.tmp 16) (.tmp 17) 86 rfl rfl rfl Xhr4.o ?_))
 go_ret;exact⟨_,_,_,_,_,_,_,rfl,Xk07.o,XhV.o⟩
theorem q1r {n:Nat}{t cols key:List Int}(hn:n<=16)(ht:t.length=n)(hrow:qdo n cols=true)(hk:key.length=cols.length):qk2 t cols key=decide (qcb t cols=qa6 key):=by
 have hin:=qnq hrow;have hiff:(qcb t cols=qa6 key)↔qen t cols=key:=by
  constructor
  ·intro h;exact qq1 h (by rw [qj2,hk])
  ·intro h;unfold qcb;rw [h]
 have h2:qk2 t cols key=true↔qen t cols=key:=by
  unfold qk2;rw [all_eq_true];constructor
  ·intro h;apply ext_getElem?;intro j;by_cases hj:j<cols.length
   ·have:=h j (by simpa using hj);simp only [decide_eq_true_eq]at this;rw [←this];have hc:cols[j]?=some cols[j]:=getElem?_eq_getElem hj;have hcm:=hin cols[j] (getElem_mem hj);unfold qen;rw [getElem?_map,hc,getD_eq_getElem?_getD,hc];simp only [Option.map_some,Option.getD_some];rw [getD_eq_getElem?_getD,getElem?_eq_getElem (by omega)]
    rfl
   ·rw [getElem?_eq_none (by rw [qj2];omega),getElem?_eq_none (by omega)]
  ·rintro rfl j hj;rw [mem_range]at hj;have hc:cols[j]?=some cols[j]:=getElem?_eq_getElem hj;have hcm:=hin cols[j] (getElem_mem hj);unfold qen;rw [decide_eq_true_eq,getElem?_map,hc,getD_eq_getElem?_getD,hc];simp only [Option.map_some,Option.getD_some];rw [getD_eq_getElem?_getD,getElem?_eq_getElem (by omega)]
   rfl
 by_cases h:qen t cols=key
 ·rw [h2.2 h,decide_eq_true (hiff.2 h)]
 ·rw [decide_eq_false (fun e=>h (hiff.1 e)),Bool.eq_false_iff];exact fun e=>h (h2.1 e)
def qeu (lo hi:Int)(i:Nat):Bool:=decide (lo<=(i:Int))&&decide ((i:Int)<hi)
theorem q1s {n:Nat}{ts:List (List Int)}{cols key:List Int}{lo hi:Int}(hn:n<=16)(hts: ∀t∈ts,t.length=n)(hrow:qdo n cols=true)(hk:key.length=cols.length):qec n ts cols key lo hi=(idx ts cols (qa6 key)).filter (qeu lo hi):=by
 unfold qec idx;rw [if_pos (by rw [hrow,decide_eq_true hk];rfl),filter_filter];refine filter_congr fun i hi2=>?_;rw [mem_range]at hi2;unfold qyd qeu;rw [q1r hn (hts _ (by rw [getD_eq_getElem?_getD,getElem?_eq_getElem hi2];exact getElem_mem hi2)) hrow hk]
theorem q1t {n:Nat}{ts:List (List Int)}{cols key:List Int}{lo hi:Int}(h:(qdo n cols&&decide (key.length=cols.length))=false):qec n ts cols key lo hi= []:=by
 unfold qec;rw [if_neg (by rw [h];simp)]
theorem q4b (ts us:List (List Int))(l k:List Int){j i:Nat}(h:(idx ts l k)[j]?=some i):(idx (ts++us) l k)[j]?=some i:=by
 induction us generalizing ts with
 |nil=>simpa using h
 |cons u us ih=>
  rw [←singleton_append,←append_assoc];refine ih (ts++ [u]) ?_;rw [qk7,getElem?_append_left (List.getElem?_eq_some_iff.1 h).1];exact h
theorem q7d {ts:List (List Int)}{l k:List Int}{j i:Nat}(h:(idx ts l k)[j]?=some i):i<ts.length:=by
 have:=mem_of_getElem? h;unfold idx at this;rw [mem_filter,mem_range]at this;exact this.1
theorem qy4 (ts:List (List Int))(l k:List Int):(idx ts l k).Pairwise (· < ·):=List.Pairwise.filter _ pairwise_lt_range
def qet (lo hi:Int)(pl:List Nat)(j:Nat):Nat:=((pl.take j).filter (qeu lo hi)).length
theorem qp6 (lo hi:Int)(pl:List Nat){j i:Nat}(hj:pl[j]?=some i):pl.filter (qeu lo hi)=(pl.take j).filter (qeu lo hi)++((if qeu lo hi i=true then [i] else [])++(pl.drop (j+1)).filter (qeu lo hi)):=by
 have hlt:=(List.getElem?_eq_some_iff.1 hj).1;have hg:=(List.getElem?_eq_some_iff.1 hj).2
 conv=>lhs;rw [←take_append_drop j pl,drop_eq_getElem_cons hlt,hg]
 rw [filter_append,filter_cons];split<;>simp
theorem q4c {lo hi:Int}{pl:List Nat}{j i:Nat}(hj:pl[j]?=some i)(h:qeu lo hi i=true):(pl.filter (qeu lo hi))[qet lo hi pl j]?=some i/\qet lo hi pl (j+1)=qet lo hi pl j+1:=by
 constructor
 ·rw [qp6 lo hi pl hj,if_pos h];unfold qet;rw [getElem?_append_right (Nat.le_refl _),Nat.sub_self]
  rfl
 ·unfold qet;rw [take_add_one,hj,filter_append];simp [h]
theorem q6a {lo hi:Int}{pl:List Nat}{j i:Nat}(hj:pl[j]?=some i)(h:qeu lo hi i=false):qet lo hi pl (j+1)=qet lo hi pl j:=by
 unfold qet;rw [take_add_one,hj,filter_append];simp [h]
theorem q4d {lo hi:Int}{pl:List Nat}(hs:pl.Pairwise (· < ·)){j i:Nat}(hj:pl[j]?=some i)(h:hi<=(i:Int)):qet lo hi pl j=(pl.filter (qeu lo hi)).length:=by
 have hlt:=(List.getElem?_eq_some_iff.1 hj).1;have hg:=(List.getElem?_eq_some_iff.1 hj).2;have h0:qeu lo hi i=false:=by unfold qeu;rw [decide_eq_false (by omega: ¬(i:Int)<hi),Bool.and_false]
 rw [qp6 lo hi pl hj,h0];have h1:(pl.drop (j+1)).filter (qeu lo hi)= []:=by
  refine filter_eq_nil_iff.2 fun x hx=>?_;obtain⟨q,hq⟩:=mem_iff_getElem?.1 hx;rw [getElem?_drop]at hq;have hq1:=(List.getElem?_eq_some_iff.1 hq).1;have hq2:=(List.getElem?_eq_some_iff.1 hq).2;have:=(pairwise_iff_getElem.1 hs) j (j+1+q) hlt hq1 (by omega);rw [hg,hq2]at this;unfold qeu;rw [decide_eq_false (by omega: ¬(x:Int)<hi),Bool.and_false];simp
 rw [h1];unfold qet;simp
theorem q4e (lo hi:Int)(pl:List Nat):qet lo hi pl pl.length=(pl.filter (qeu lo hi)).length:=by unfold qet;rw [take_length]
theorem q6b {F:Fence}{n:Nat}{P:Program}{w w':World}{ops:Array Oper}{rest:List Oper}{o:Oper}{a:Act}{Q:Exit->Act->World->Prop}{v u v':Value}
  (hw:Region.wanted o (yielded ops a.tmps)=true) (s x:Operand) (t:TypeId) (hop:o.op=Op.call {callee:=Callee.builtin Builtin.append,args:= #[s,x],argTypes:= #[t,t]}) (hs:a.eval s=v) (hx:a.eval x=u)
  (hrun:(Builtin.append_ #[t,t] o.type #[v,u]).run P w=.ok v' w') (hK:wpListIn F n P ops Q rest (a.put o.dst v') w'):wpListIn F n P ops Q (o::rest) a w:=by
 unfold wpListIn;rw [if_pos hw];unfold Oper.wpIn;refine⟨?_,?_⟩
 ·simp [Oper.about,hop,resolve,Target.leads,Sem.run_pure]
 ·rw [Oper.semAt_plain F _ _ (by rw [hop];intro c hc';cases hc')];simp [execOp,hop,resolve,invoke,builtin,hs,hx,hrun,Result.andThen];exact hK
theorem qy5 {n:Nat}{P:Program}{w:World}{ops:Array Oper}{rest:List Oper}{o:Oper}{a:Act}{Q:Exit->Act->World->Prop}
  (hw:Region.wanted o (yielded ops a.tmps)=false) (h:wpListIn Fence.wide n P ops Q rest (a.put o.dst undef) w):wpListIn Fence.wide n P ops Q (o::rest) a w:=by
 unfold wpListIn;rw [if_neg (by rw [hw];simp)];exact⟨fun _ _=>trivial,h⟩
structure PlacesAt (s:qeo)(n:Nat)(cols key:List Int)(lo hi:Int)(pl:List Nat)(v:Value):Prop where
 told:qec n s.ts cols key lo hi=pl.filter (qeu lo hi)
 sort:pl.Pairwise (· < ·)
 few:pl.length<=s.ts.length
 good: ∀(j i:Nat),pl[j]?=some i->qdo n cols=true/\i<s.ts.length/\(idx s.ts cols (qa6 key))[j]?=some i/\ ∃b c p,v=.slice (some ⟨b,0,none⟩) pl.length c/\s.tag b=some (.ent (qaq cols) (qa6 key) p)/\pl.length<=p
theorem PlacesAt.read {B n P KM:Nat}{s0 s:qeo}{w:World}{cols key:List Int}{lo hi:Int}{pl:List Nat}{v:Value}{m:Nat}(h:PlacesAt s0 n cols key lo hi pl v)(hb:RelBd s0 m s)(hinv:RelInv B n P KM s w){j i:Nat}(hj:pl[j]?=some i):
  ∃b c t,v=.slice (some ⟨b,0,none⟩) pl.length c/\w.cell? ⟨b,j,none⟩=some (.int .i64 (i:Int))/\s0.ts[i]?=some t/\s.ts[i]?=some t:=by
 obtain⟨hrow,hil,hidx,b,c,p,hv,htag,hp⟩:=h.good j i hj;obtain⟨us,hus⟩:=hb.more;have hjl:=(List.getElem?_eq_some_iff.1 hj).1;obtain⟨t,ht⟩: ∃t,s0.ts[i]?=some t:=⟨_,getElem?_eq_getElem hil⟩;refine⟨b,c,t,hv,?_,ht,by rw [hus,getElem?_append_left hil];exact ht⟩;have htag': ∃q,s.tag b=some (.ent (qaq cols) (qa6 key) q)/\p<=q:=by
  rcases hb.le b _ htag with h1 |⟨c1,k1,p1,q1,e1,h1,h2⟩
  ·exact⟨p,h1,Nat.le_refl _⟩
  ·cases e1;exact⟨q1,h1,h2⟩
 obtain⟨q,hq,hpq⟩:=htag';obtain⟨L,hL⟩:=hinv.own.ents b (qaq cols) (by rw [hq];rfl);obtain⟨l',vl,M,mm,hLA⟩:=hinv.own.looks _ _ hL;have hl:l'=cols:=qr6 hLA.row hrow hinv.own.n16 hLA.mask;subst hl;obtain⟨i',h1,h2⟩:=hLA.blocks b _ q hq j (by omega);have h3:=q4b s0.ts us l' (qa6 key) hidx;rw [hus,h3]at h1;cases h1;exact h2
set_option maxRecDepth 100000 in
set_option maxHeartbeats 4000000 in
theorem qsl (B n P KM n0 n1 bR bL bK bT bF:Nat)(vl vk:Value)(lo hi:Int)(cols key:List Int)(hok:okT key)(hcl:cols.length<=1073741824)(hkl:key.length<=1073741824):
  qpq prog 152 #[.pointer (some ⟨bR,0,none⟩),.pointer (some ⟨bL,0,none⟩),.pointer (some ⟨bK,0,none⟩),.pointer (some ⟨bT,0,none⟩),.pointer (some ⟨bF,0,none⟩)] (qe5 B n P KM) (fun s=>(qec n s.ts cols key lo hi).length)
  (fun s0 k s m X args=> ∃i t,(qec n s0.ts cols key lo hi)[k]?=some i/\s0.ts[i]?=some t/\q7q i t m X args) (MatchV n0 n1 bR bL bK bT bF B vl vk lo hi cols key) (fun b=>n0<=b/\b<n1):=by
 intro l J Jx W s0 hl hinv hV hU hJ hJx hround h0;refine qbp Tryz.func152 rfl ?_;simp only [Tryz.ntmps152,size_toArray,length_cons,length_nil,Nat.reduceAdd,Nat.reduceSub,Array.replicate_succ,Array.replicate_zero,push_toArray,append_toArray,nil_append,cons_append];have cR:=hV.r.cell;have cL:=hV.l.cell;have cK:=hV.k.cell;have lR:=hV.r.lt;have lL:=hV.l.lt;have lK:=hV.k.lt;have hfk:qp4 s0.tag vk:=fun a n' c' e=>hU _ ⟨(World.ownsRow.lt hV.ok _ (by rw [e];rfl)).1,hV.bk _ (by rw [e];rfl)⟩;have hfew:=hinv.few;have hfd:=q1q hinv.own (by omega) W.heap.size vl vk cols key (qd8 hV.ol hcl) (qd8 hV.ok hkl) (Nat.le_refl _) hok hfk;clear hfk;obtain⟨a1,c1,rfl⟩:=qi hV.ol;obtain⟨a2,c2,rfl⟩:=qi hV.ok;refine hd8 ?_ hinv hV hU hJ hJx hround h0 hfd;clear hinv hV hU hJ hJx hround h0 hfd;intro Xhinv XhV XhU XhJ XhJx Xhround Xh0 Xhfd;gi_wp2;refine⟨trivial,rfl,(callsIn_wide.2 Xhfd.o).mono ?_⟩;rintro e W1 ⟨v,tag1,lm1,rfl,k1,hG1,hle1,hnew1,hsub1,hF,hnil⟩;obtain⟨s1,hs1⟩: ∃s1:qeo,s1=⟨tag1,s0.ts,s0.vD,lm1⟩:=⟨_,rfl⟩;have hinv1:RelInv B n P KM s1 W1:=by rw [hs1];exact⟨hG1,hfew⟩
 have hist:qsz B n P KM s0 W s1 W1:=by rw [hs1] at hinv1⊢;exact⟨k1,rfl,hle1,hnew1,hsub1,hinv1⟩
 have hJ1:J 0 s1 W1:=XhJ.o 0 s0 W s1 W1 Xh0.o hist;have hV1:=XhV.o.keep k1 (fun b h1 h2=>XhU.o b ⟨h1,h2⟩);have hts1:s1.ts=s0.ts:=by rw [hs1]
 have hz1:=k1.size;obtain⟨pl,av,cv,hv,hpl⟩: ∃(pl:List Nat) (av:Option Addr) (cv:Nat),v=.slice av pl.length cv/\PlacesAt s1 n cols key lo hi pl v:=by
  cases hg:(qdo n cols&&decide (key.length=cols.length)) with
  |false=>
   refine⟨[],none,0,hnil hg,⟨by rw [q1t hg];rfl,List.Pairwise.nil,Nat.zero_le _,fun j i hj=>by simp at hj⟩⟩
  |true=>
   simp only [Bool.and_eq_true,decide_eq_true_eq]at hg;obtain⟨⟨ho,hb⟩,L,hL⟩:=hF hg.1 hg.2;obtain⟨av,cv,rfl⟩:=qi ho;refine⟨idx s0.ts cols (qa6 key),av,cv,rfl,⟨?_,qy4 _ _ _,by rw [hts1];exact qxc _ _ _,fun j i hj=>⟨hg.1,by rw [hts1];exact q7d hj,by rw [hts1];exact hj,?_⟩⟩⟩
   ·rw [hts1];exact q1s hG1.n16 hG1.len hg.1 hg.2
   ·rcases ho.2 with ⟨e1,e2⟩ |⟨g,cap,cur,e1,e2,e3,e4,e5,_⟩
    ·have:=(List.getElem?_eq_some_iff.1 hj).1;omega
    ·injection e1 with q1 q2 q3
     subst q1;exact⟨g,cv,_,rfl,by rw [hs1];exact hb g rfl,Nat.le_refl _⟩
 subst hv;have hNl:(qec n s0.ts cols key lo hi).length=(pl.filter (qeu lo hi)).length:=by rw [←hts1,hpl.told]
 have hpll:pl.length<=67108864:=Nat.le_trans hpl.few hinv1.few;clear hs1 hG1 hle1 hnew1 hsub1 hF hnil k1 cR cL cK lR lL lK hfew;refine hd7 ?_ hinv1 hist hJ1 hV1 hts1 hpl hNl;clear hinv1 hist hJ1 hV1 hts1 hpl hNl;intro Xhinv1 Xhist XhJ1 XhV1 Xhts1 Xhpl XhNl;gi_wp2;gi_loopw [20] (fun i wr=> ∃(j:Nat) (s:qeo),i=.int .i64 (j:Int)/\j<=pl.length/\J (qet lo hi pl j) s wr/\RelInv B n P KM s wr/\MatchV n0 n1 bR bL bK bT bF B (.slice a1 cols.length c1) (.slice a2 key.length c2) lo hi cols key wr/\RelBd s1 W.heap.size s/\W.heap.size<=wr.heap.size) (fun i _=>pl.length-(intOf i).toNat)
 case atStart=>exact⟨0,s1,rfl,Nat.zero_le _,by unfold qet;exact XhJ1.o,Xhinv1.o,XhV1.o,RelBd.refl _ _,hz1⟩
 case round=>
  obtain⟨j,s,rfl,hj,hJk,hinvk,hVk,hbd,hsz⟩:=hrel;by_cases hlt:j<pl.length
  ·obtain⟨i,hi'⟩: ∃i,pl[j]?=some i:=⟨_,getElem?_eq_getElem hlt⟩;obtain⟨b,cb,t,hvb,hcell,ht0,hts⟩:=Xhpl.o.read hbd hinvk hi';injection hvb with hav hnn hcc
   clear hnn hcc;subst hav;have hbw:b<wr.heap.size:=World.block_lt_of_cell? _ _ hcell;have hlt1:(j:Int)<pl.length:=by omega
   have hj0:(0:Int)<=j:=by omega
   have hj1:(j:Int)+1<=67108864:=by omega
   have cT:=hVk.t.cell;have lT:=hVk.t.lt;by_cases hge:hi<=(i:Int)
   ·have hend:=q4d (lo:=lo) (Xhpl.o.sort) hi' hge;have hJe:J (pl.filter (qeu lo hi)).length s wr:=by rw [←hend];exact hJk
    clear hend hJk ht0 hts hi';refine hd4 ?_ hJe hinvk hVk hbd;clear hJe hinvk hVk hbd;intro XhJe Xhinvk XhVk Xhbd;gi_wp2;refine bodyPost_ret (results_none rfl _ _ _) rfl ?_;exact⟨⟨_,rfl⟩,hsz,s,Xhinvk.o,XhVk.o,.inl (by rw [XhNl.o];exact XhJe.o)⟩
   ·have cF:=hVk.f.cell;have lF:=hVk.f.lt;by_cases hfr:lo<=(i:Int)
    ·have hyes:=q4c hi' (lo:=lo) (hi:=hi) (by unfold qeu;rw [decide_eq_true hfr,decide_eq_true (by omega)];rfl);obtain⟨hnth,hnext⟩:=hyes;have hkN:qet lo hi pl j<(qec n s0.ts cols key lo hi).length:=by rw [XhNl.o];exact(List.getElem?_eq_some_iff.1 hnth).1
     have hnth2:(qec n s0.ts cols key lo hi)[qet lo hi pl j]?=some i:=by rw [←Xhts1.o,Xhpl.o.told];exact hnth
     have ht00:s0.ts[i]?=some t:=by rw [←Xhts1.o];exact ht0
     have hfewk:=hinvk.few;have hil:i<s.ts.length:=(List.getElem?_eq_some_iff.1 hts).1;have hib:(i:Int)<=67108864:=by omega
     have hi0:(0:Int)<=i:=by omega
     have hBr:=qe hinvk.own.box;obtain⟨W2,hW2⟩:=ex (wr.alloc (.cells #[] 3));have k1:Keep (fun _=>True) wr W2:=by rw [←hW2];exact kAl
     have ho1:W2.ownsRow wr.heap.size 3 1 (.slice (some ⟨wr.heap.size,0,none⟩) 0 0) 0 []:=by rw [←hW2];exact World.ownsRow_made wr #[] 0 (Nat.le_refl _) (by simp [maxLen]) rfl
     have hinv2:=hinvk.keep (k1.mono fun _ _ _=>trivial);have cR2:=(hVk.keep k1 (fun _ _ _=>trivial)).r.cell;have lR2:bR<W2.heap.size:=World.block_lt_of_cell? _ _ cR2;have htup:=qr4 hinv2.own (by omega) i t hts;clear hi' ht0 hts hnth;refine qhe ?_ hJk hinvk hVk hbd k1 ho1 hinv2 htup hkN hnth2 ht00 hnext;clear hJk hinvk hVk hbd k1 ho1 hinv2 htup hkN hnth2 ht00 hnext;intro XhJk Xhinvk XhVk Xhbd Xk1 Xho1 Xhinv2 Xhtup XhkN Xhnth2 Xht00 Xhnext;gi_wp2;refine⟨trivial,rfl,(callsIn_wide.2 Xhtup.o).mono ?_⟩;rintro e W3 ⟨vt,rfl,k3,z3,hvt,htl⟩;have ho3:=qg Xho1.o k3 (fun _ _=>trivial);have hvt3:=qd2 hvt (m:=W2.heap.size) (k3.mono fun _ _ _=>trivial) (Nat.le_refl _);obtain⟨at',ct',rfl,hlt',hct',het'⟩:=id hvt3;have hclt:=qf5 (sz:=1) ic (fun _=>rfl) (by omega) (E:=qfr) (fun b o x h j u hj=>by
      have hj0:j=0:=by have:=(List.getElem?_eq_some_iff.1 hj).1;simp [ic] at this;exact this
      subst hj0;simp [ic]at hj;subst hj;exact h) hvt3 rfl
     have hz13:wr.heap.size<=W3.heap.size:=by have:=Xk1.o.size;omega
     obtain⟨va,W4,hr4,ho4,hg4,kw4⟩:=qji (P:=prog) qm3 86 ho3 at' t.length ct' (t.flatMap ic) (qa0 _ 1 (fun _=>rfl) _) hclt.1 hclt.2 (qjk _ (by simp [ic,Value.oneCell']) _) (by omega) hz13;rw [qm2,nil_append,Nat.zero_add]at ho4;have k04:Keep (fun _=>True) wr W4:=((Xk1.o.mono fun _ _ _=>trivial).trans ((k3.mono fun _ _ _=>trivial).trans (kw4.mono (C':=fun b=>b<wr.heap.size) fun b _ h e=>by have:=(World.ownsRow.lt ho4 b e).1;omega))).mono (fun b hb _=>hb);have hinv4:=Xhinvk.o.keep (k04.mono fun _ _ _=>trivial);have hV4:=XhVk.o.keep k04 (fun _ _ _=>trivial);obtain⟨fn,tmps,assign,body,hy,hR⟩:=Xhround.o (qet lo hi pl j) s wr W4 #[.int .i64 (i:Int),va] XhkN.o XhJk.o (qy3 Xhinvk.o k04) hinv4 hV4 hsz ⟨i,t,Xhnth2.o,Xht00.o,va,rfl,ho4,hlt'⟩;have hR':=Lib.hid hR;clear hR hvt hvt3 het' hclt ho3 hg4 kw4 htl ho4;have k3':=Lib.hid k3;have hinv4':=Lib.hid hinv4;have hV4':=Lib.hid hV4;have hz4:W.heap.size<=W4.heap.size:=by have:=k04.size;omega
     have k04':=Lib.hid k04;clear k3 hinv4 hV4 k04;refine hd1 ?_ hr4;clear hr4;intro Xhr4
     gi_wp2_with (gi_at_builtin;refine q6b (v:=.slice (some ⟨wr.heap.size,0,none⟩) 0 0) (u:=.slice at' t.length ct') (v':=va) (w':=W4) (by rfl) (.tmp 33) (.tmp 36) 86 rfl rfl rfl Xhr4.o ?_)
     refine⟨rfl,hR'.out.mono ?_⟩;rintro e Y ⟨s',hinvY,hVY,hbdY,hzY,(⟨rfl,hJY⟩ |⟨rfl,hJY⟩)⟩
     all_goals
      have hbd':RelBd s1 W.heap.size s':=Xhbd.o.trans hbdY hz4;clear hbdY hR' hy;refine hd4 ?_ hinvY hVY hJY hbd';clear hinvY hVY hJY hbd';intro XhinvY XhVY XhJY Xhbd';gi_wp2
     ·go_roundw
      case rel=>exact⟨j+1,s',by go_num,by omega,by rw [Xhnext.o];exact XhJY.o,XhinvY.o,XhVY.o,Xhbd'.o,by omega⟩
      case measure=>simp [intOf];omega
     ·refine bodyPost_ret (results_none rfl _ _ _) rfl ?_;exact⟨⟨_,rfl⟩,by omega,s',XhinvY.o,XhVY.o,.inr ⟨_,XhkN.o,XhJY.o⟩⟩
    ·have hno:=q6a hi' (lo:=lo) (hi:=hi) (by unfold qeu;rw [decide_eq_false hfr];rfl);have hJn:J (qet lo hi pl (j+1)) s wr:=by rw [hno];exact hJk
     have hng: ¬((i:Int)≥lo):=hfr;clear hno hJk hi' ht0 hts;refine hd4 ?_ hJn hinvk hVk hbd;clear hJn hinvk hVk hbd;intro XhJn Xhinvk XhVk Xhbd;gi_wp2;refine⟨trivial,?_⟩;rename_i aK;refine aK _ _ ?_;clear aK
     try go_frame
     refine qy5 (by rfl) ?_
     try go_frame
     refine qy5 (by rfl) ?_
     try go_frame
     refine qy5 (by rfl) ?_
     try go_frame
     gi_wp2;go_roundw
     case rel=>exact⟨j+1,s,by go_num,by omega,XhJn.o,Xhinvk.o,XhVk.o,Xhbd.o,by omega⟩
     case measure=>simp [intOf];omega
  ·have hje:j=pl.length:=by omega
   have hJe:J (pl.filter (qeu lo hi)).length s wr:=by rw [←q4e lo hi pl,←hje];exact hJk
   clear hJk hje;refine hd4 ?_ hJe hinvk hVk hbd;clear hJe hinvk hVk hbd;intro XhJe Xhinvk XhVk Xhbd;gi_wp2
   go_end0
   exact⟨⟨_,rfl⟩,hsz,s,Xhinvk.o,XhVk.o,.inl (by rw [XhNl.o];exact XhJe.o)⟩
structure RelSame (s0:qeo)(w:World)(s:qeo)(X:World):Prop where
 keep:Keep (fun b=>s0.tag b=none/\b<w.heap.size) w X
 same:s.ts=s0.ts
 le:TagLe s0.tag s.tag
 new:TagNew s0.tag s.tag w
 sub: ∀p,p∈s0.lm->p∈s.lm
theorem RelSame.refl (s:qeo)(w:World):RelSame s w s w:=⟨Keep.refl _ _,rfl,TagLe.refl _,TagNew.refl _ _,fun _ h=>h⟩
theorem RelSame.it {B n P K:Nat}{s0 s s':qeo}{w X Y:World}(h:RelSame s0 w s X)(g:qsz B n P K s X s' Y):RelSame s0 w s' Y:=by
 have hf: ∀b,s0.tag b=none->b<w.heap.size->s.tag b=none:=fun b h1 h2=>by
  cases hT:s.tag b with
  |none=>rfl
  |some T=>
   rcases h.new b T hT with ⟨T',h3⟩ |h3
   ·rw [h1]at h3;cases h3
   ·omega
 exact⟨h.keep.trans (g.keep.mono fun b _ hb=>hf b hb.1 hb.2),g.same.trans h.same,h.le.trans g.le,h.new.trans g.new h.keep.size,fun p hp=>g.sub p (h.sub p hp)⟩
theorem RelSame.keepOn {s0 s:qeo}{w X Y:World}{C:Nat->Prop}(h:RelSame s0 w s X)(hK:Keep C X Y)(hC: ∀b,b<w.heap.size->s0.tag b=none->C b):RelSame s0 w s Y:=
 ⟨h.keep.trans (hK.mono fun b _ hb=>hC b hb.2 hb.1),h.same,h.le,h.new,h.sub⟩
theorem RelSame.trans {s0 s s':qeo}{w X Y:World}(h:RelSame s0 w s X)(g:RelSame s X s' Y):RelSame s0 w s' Y:=by
 have hf: ∀b,s0.tag b=none->b<w.heap.size->s.tag b=none:=fun b h1 h2=>by
  cases hT:s.tag b with
  |none=>rfl
  |some T=>
   rcases h.new b T hT with ⟨T',h3⟩ |h3
   ·rw [h1]at h3;cases h3
   ·omega
 exact⟨h.keep.trans (g.keep.mono fun b hb hc=>⟨hf b hc.1 hc.2,hb⟩),g.same.trans h.same,h.le.trans g.le,h.new.trans g.new h.keep.size,fun p hp=>g.sub p (h.sub p hp)⟩
theorem qwb {n:Nat}{ts:List (List Int)}{t:List Int}(h: ∀t∈ts,qdb n t=true)(ht:qdb n t=false):qe1 ts t=none:=by
 unfold qe1;refine find?_eq_none.2 fun i _ hi=>?_;have:=h t (mem_of_getElem? (of_decide_eq_true hi));rw [ht]at this;cases this
set_option maxRecDepth 100000 in
set_option maxHeartbeats 1000000 in
theorem qup {tag:qb2}{w:World}{B n:Nat}{ts:List (List Int)}{vD:Value}{P K:Nat}{lm:List (List Bool×Nat)}(h:qb6 tag w B n ts vD P K lm)(m:Nat)(v:Value)(t:List Int)(hs:qap m w v t)(hm:m<=w.heap.size)(hok:okT t):
  Calls prog 107 #[.pointer (some ⟨B,0,none⟩),v] w fun e w'=>e=.returned (qjw (qe1 ts t))/\Keep (fun k=>k<w.heap.size) w w':=by
 obtain⟨a,c,rfl,hlt,hct,het⟩:=id hs;have hB:=qe h.box;have hn16:=h.n16;refine hd4 ?_ h hs het hok;clear h hs het hok;intro Xh Xhs Xhet Xhok
 go_enter Tryz.func107,Tryz.ntmps107
 go_wp2_with fail;refine(ql0 Xh.o.box).mono ?_;rintro e w1 ⟨rfl,hw1⟩;have hw1:=hw1.symm;subst hw1;go_wp2_with fail;refine(qr1 Xh.o.box m _ t Xhs.o hm).mono ?_;rintro e W1 ⟨rfl,kw1⟩;cases hrt:qdb n t with
 |false=>
  have hans:qe1 ts t=none:=qwb Xh.o.right hrt;clear hrt;refine hd2 ?_ kw1 hans;clear kw1 hans;intro Xkw1 Xhans;go_wp2_with fail
  go_ret2
  exact⟨by rw [Xhans.o];rfl,Xkw1.o.mono fun _ _ _=>trivial⟩
 |true=>
  have htl:=ql3 hrt;obtain⟨Wd,hWd⟩:=ex (W1.drew)
  replace kw1:Keep (fun _=>True) w Wd:=by rw [←hWd];exact kw1.trans kDr
  have hs1:=qd2 Xhs.o (m:=m) (kw1.mono fun _ _ _=>trivial) (Nat.le_refl _);have htl16:t.length<=16:=by omega
  have hckl:(qa6 t).length=16:=qhk (by omega);have hkok: ∃q,keyOf prog 176 (qg5 (qa6 t))=some q:=qp2 hckl (qnu Xhok.o);have z1:=kw1.size;have c3:=qb (Xh.o.keep kw1 (fun _ _ _ _=>trivial)).box 3 _ rfl;simp only [Nat.zero_add]at c3;have hB1:B<Wd.heap.size:=by omega
  clear hckl;have hwh:=qnd m _ t Wd hs1 (by omega) htl16;refine hd6 ?_ kw1 hs1 hkok hrt htl hwh;clear kw1 hs1 hkok hrt htl hwh;intro Xkw1 Xhs1 Xhkok Xhrt Xhtl Xhwh;have XhS0:=Lib.hid c3;clear c3;have c3:W1.cell? ⟨B,3,none⟩=some (.map (some P)):=by rw [←hWd] at XhS0;exact XhS0.o
  have hB0:B<W1.heap.size:=by rw [←hWd] at hB1;exact hB1
  subst hWd;go_wp2_with fail;refine qc7 rfl (fun W=>W.cell? ⟨B,3,none⟩=some (.map (some P))) [11] ?_;clear c3;refine qam [0,1,2,3,4] ?_
  iterate 5
   refine tkN (v:=?_) rfl XhS0.o ?_ ?_;rotate_left
   ·rintro Wq x0;go_simp
    try with_reducible rfl
   try simp only [qan]
  refine qu ?_;refine ho 5 rfl fun K XhK0=>?_;go_wp2_with fail;refine Xhwh.o.mono ?_;rintro e W2 ⟨rfl,kw2⟩
  replace kw2:Keep (fun b=>b<w.heap.size) w W2:=(Xkw1.o.mono fun _ _ _=>trivial).trans (kw2.mono fun b _ h=>by omega)
  have hd:=Xh.o.keep kw2 (fun b T hb hlt=>hlt);have hlk:=qd1 (P:=prog) Tryz.underlying168 qk6.law qj1 quk hd.pmap (qa6 t) Xhkok.o true;have hnd:((qd7 ts).map (·.1)).Nodup:=by
   obtain⟨_,_,_,_,hnd,_⟩:=hd.pmap;exact hnd
  rw [qp3 hd.len Xhtl.o hnd]at hlk;have c3:=qb hd.box 3 _ rfl;simp only [Nat.zero_add]at c3;have XhS2:=Lib.hid c3;have hB2:B<W2.heap.size:=qe hd.box;clear hnd hd c3;refine hd1 ?_ kw2;clear kw2;intro Xkw2;cases hpl:qe1 ts t
  all_goals
   rw [hpl]at hlk;simp only [if_true]at hlk;refine hd1 ?_ hpl;clear hpl;intro Xhpl;go_wp2_with fail;refine XhK0.o _ _ (fun _=>XhS2.o) ?_;refine ho 6 rfl fun K XhK1=>?_;go_wp2_with fail;refine XhK1.o _ _ (fun _=>XhS2.o) ?_;refine ho 7 rfl fun K XhK2=>?_;go_wp2_with fail;refine XhK2.o _ _ (fun _=>XhS2.o) ?_;refine qam [8,9] ?_
   iterate 2
    refine tkN (v:=?_) rfl XhS2.o ?_ ?_;rotate_left
    ·rintro Wq x0;go_simp
     try with_reducible rfl
    try simp only [qan]
   refine qu ?_;refine ho 10 rfl fun K XhK5=>?_;go_wp2_with fail;refine XhK5.o _ _ (fun _=>XhS2.o) ?_;refine ho 11 rfl fun K XhK6=>?_;go_wp2_with fail;refine XhK6.o _ _ (fun h=>by simp at h) ?_;refine qee (by kernel_rfl) ?_;go_wp2_with fail
   go_ret2
   exact⟨by rw [Xhpl.o];rfl,Xkw2.o⟩
end Go.Proofs.R4
