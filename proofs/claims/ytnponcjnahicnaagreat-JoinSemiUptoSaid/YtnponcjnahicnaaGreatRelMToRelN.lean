/- Parts of the proof. -/
import Derived.Test.YtnponcjnahicnaaGreatProg
import Derived.Test.YtnponcjnahicnaaGreatRelKToRelL
import Derived.Test.YtnponcjnahicnaaGreatMapsToRelG
import Derived.Test.YtnponcjnahicnaaGreatHdToKp
set_option linter.unusedSimpArgs false
set_option linter.unusedVariables false
open Go.Proofs.Tryz(prog)
open List(all_eq_true find?_eq_none find?_some flatten_cons getElem?_append_left getElem?_append_right getElem?_inj getElem?_map getElem?_zipIdx length_append length_cons length_singleton mem_append mem_iff_getElem? mem_map mem_of_getElem? mem_range nodup_append nodup_nil zipIdx_append)
namespace Go.Proofs.R4
open Go.RowKit Go.Ink
attribute [local go_sem] Oper.semAt_some
def qd7 (ts:List (List Int)):List (List Int×Nat):=ts.zipIdx.map fun p=>(qa6 p.1,p.2)
abbrev qj (b:Nat):Value:=.pointer (some ⟨b,0,none⟩)
abbrev quj (w:World)(b:Nat)(m:List (List Int×Nat)):Prop:=MapIn prog 176 qg5 qh5 w b m
abbrev qxd (w:World)(b:Nat)(m:List (List Bool×Nat)):Prop:=MapIn prog 179 qh4 qj w b m
structure RelG (tag:qb2)(w:World)(B n:Nat)(ts:List (List Int))(tsl:List Bool->List (List Int))(vD:Value)(P K:Nat)(lm:List (List Bool×Nat)):Prop where
 tagB:tag B=some .box
 box:w.heap[B]?=some (.cells (qfc n vD ts.length P K).toArray 171 (0,0))
 n16:n<=16
 nodup:ts.Nodup
 right: ∀t∈ts,qdb n t=true
 ok: ∀t∈ts,okT t
 own:w.ownsRow 0 3 1 vD ts.flatten.length (ts.flatten.map (.int .i64))
 tagD: ∀b,vD.ownBlock=some b->tag b=some .data
 tagP:tag P=some .pmap
 pmap:quj w P (qd7 ts)
 tagK:tag K=some .kmap
 kmap:qxd w K lm
 looks: ∀c L,(c,L)∈lm-> ∃l vl M m,LookAt tag w n (tsl c) c L l vl M m
 ents: ∀b c,qb5 (tag b)=some c-> ∃L,(c,L)∈lm
 lt: ∀b T,tag b=some T->b<w.heap.size
abbrev qb6 (tag:qb2)(w:World)(B n:Nat)(ts:List (List Int))(vD:Value)(P K:Nat)(lm:List (List Bool×Nat)):Prop:=RelG tag w B n ts (fun _=>ts) vD P K lm
theorem RelG.keep {tag:qb2}{w w':World}{B n:Nat}{ts:List (List Int)}{tsl:List Bool->List (List Int)}{vD:Value}{P K:Nat}{lm:List (List Bool×Nat)}{C:Nat->Prop}(h:RelG tag w B n ts tsl vD P K lm)(hK:Keep C w w')(hC: ∀b T,tag b=some T->b<w.heap.size->C b):RelG tag w' B n ts tsl vD P K lm:=by
 have hC2: ∀b T,tag b=some T->C b:=fun b T hb=>hC b T hb (h.lt b T hb);refine⟨h.tagB,hK.heap h.box (hC2 _ _ h.tagB),h.n16,h.nodup,h.right,h.ok,qg h.own hK (fun b hb=>hC2 _ _ (h.tagD b hb)),h.tagD,h.tagP,h.pmap.keep hK (hC2 _ _ h.tagP),h.tagK,h.kmap.keep hK (hC2 _ _ h.tagK),fun c L hcl=>?_,h.ents,fun b T hb=>Nat.lt_of_lt_of_le (h.lt b T hb) hK.size⟩;obtain⟨l,vl,M,m,hl⟩:=h.looks c L hcl;refine⟨l,vl,M,m,hl.keep hK (fun b hb=>?_) (fun _ _=>rfl) (fun _ _=>rfl)⟩;cases hT:tag b with
 |none=>rw [hT] at hb;cases hb
 |some T=>exact hC2 b T hT
theorem RelG.len {tag:qb2}{w:World}{B n:Nat}{ts:List (List Int)}{tsl:List Bool->List (List Int)}{vD:Value}{P K:Nat}{lm:List (List Bool×Nat)}(h:RelG tag w B n ts tsl vD P K lm): ∀t∈ts,t.length=n:=fun t ht=>by
 have:=h.right t ht;simp only [qdb,Bool.and_eq_true,decide_eq_true_eq]at this;exact this.1
set_option maxRecDepth 100000 in
theorem qy2 (n:Nat)(hn:n<=16)(w:World):Calls prog 56 #[.int .i64 n] w fun e w'=>e=.returned (.tuple #[.pointer (some ⟨w.heap.size+2,0,none⟩),.int .i64 0])/\Keep (fun _=>True) w w'/\
  ∃tag P K,qb6 tag w' (w.heap.size+2) n [] (.slice none 0 0) P K []/\ ∀b T,tag b=some T->w.heap.size<=b:=by
 have h1:(0:Int)<=n:=by omega
 have h2:(n:Int)<=16:=by omega
 have h3: ¬((n:Int)<0):=by omega
 have h4: ¬((16:Int)<n):=by omega
 have hmm:= @run_makeMap prog
 go_enter Tryz.func56,Tryz.ntmps56
 go_wp2
 go_ret2
 refine⟨rfl,(kAl.trans kAl).trans kAl,fun b=>if b=w.heap.size then some .pmap else if b=w.heap.size+1 then some .kmap else if b=w.heap.size+2 then some .box else none,⟨w.heap.size,w.heap.size+1,?_⟩,?_⟩
 ·refine⟨by simp,?_,hn,nodup_nil,fun t ht=>(by cases ht),fun t ht=>(by cases ht),World.ownsRow_nil _ _ _ _,fun b hb=>(by simp [Value.ownBlock] at hb),by simp,?_,by simp,?_,fun c L h=>(by cases h),fun b c hb=>?_,fun b T hb=>?_⟩
  ·simp only [qah,World.size_alloc];simp [qfc]
  ·exact((qho w).keep (Keep.alloc (fun _=>True) _ _) trivial).keep (Keep.alloc (fun _=>True) _ _) trivial
  ·have:=(qho (P:=prog) (K:=179) (ek:=qh4) (ev:=qj) (w.alloc (.map #[] 0))).keep (Keep.alloc (fun _=>True) _ (.cells (qfc n (.slice none 0 0) 0 w.heap.size (w.heap.size+1)).toArray 171)) trivial
   simpa [qfc]using this
  ·split at hb
   ·cases hb
   ·split at hb
    ·cases hb
    ·split at hb<;>cases hb
  ·simp only [World.size_alloc];split at hb
   ·omega
   ·split at hb
    ·omega
    ·split at hb
     ·omega
     ·cases hb
 ·intro b T hb
  replace hb:(if b=w.heap.size then some Tag.pmap else if b=w.heap.size+1 then some Tag.kmap else if b=w.heap.size+2 then some Tag.box else none)=some T:=hb
  split at hb
  ·omega
  ·split at hb
   ·omega
   ·split at hb
    ·omega
    ·cases hb
theorem qxe {n:Nat}: ∀{ts:List (List Int)} (h: ∀t∈ts,t.length=n) {i:Nat} {t:List Int} (hi:ts[i]?=some t) {k:Nat} {x:Int} (hk:t[k]?=some x),ts.flatten[i*n+k]?=some x
 | [],_,i,t,hi,_,_,_=>by simp at hi
 |s::ts,h,0,t,hi,k,x,hk=>by
  simp at hi;subst hi;rw [flatten_cons,Nat.zero_mul,Nat.zero_add,getElem?_append_left (List.getElem?_eq_some_iff.1 hk).1];exact hk
 |s::ts,h,i+1,t,hi,k,x,hk=>by
  have hs:s.length=n:=h s (by simp);rw [flatten_cons,getElem?_append_right (by rw [hs,Nat.succ_mul];omega),hs];have:(i+1)*n+k-n=i*n+k:=by rw [Nat.succ_mul];omega
  rw [this];exact qxe (fun t ht=>h t (by simp [ht])) (by simpa using hi) hk
theorem qox {n:Nat}: ∀{ts:List (List Int)} (h: ∀t∈ts,t.length=n),ts.flatten.length=ts.length*n
 | [],_=>by simp
 |s::ts,h=>by
  rw [flatten_cons,length_append,qox (fun t ht=>h t (by simp [ht])),h s (by simp),length_cons,Nat.succ_mul];omega
set_option maxRecDepth 100000 in
theorem qr4 {tag:qb2}{w:World}{B n:Nat}{ts:List (List Int)}{vD:Value}{P K:Nat}{lm:List (List Bool×Nat)}(h:qb6 tag w B n ts vD P K lm)(hl:ts.length<=536870912)(i:Nat)(t:List Int)(hi:ts[i]?=some t):
  Calls prog 154 #[.pointer (some ⟨B,0,none⟩),.int .i64 (i:Int)] w fun e w'=> ∃v,e=.returned v/\Keep (fun _=>True) w w'/\w'.heap.size=w.heap.size/\qap w.heap.size w v t/\t.length=n:=by
 have hlen:t.length=n:=h.len t (mem_of_getElem? hi);have hil:=(List.getElem?_eq_some_iff.1 hi).1;have hn:=h.n16;have hB:=qe h.box;have hfl:=qox h.len;have hmul:(i+1)*n<=ts.length*n:=Nat.mul_le_mul_right n hil;have hmul2:ts.length*n<=536870912*16:=Nat.mul_le_mul hl hn;have hsm:(i+1)*n=i*n+n:=Nat.succ_mul i n;have c0:=qb h.box 0 _ rfl;have c1:=qb h.box 1 _ rfl;simp only [Nat.zero_add]at c0 c1;obtain⟨ad,lenD,capD,rfl,hlc,hcm⟩: ∃ad lenD capD,vD=.slice ad lenD capD/\lenD=ts.flatten.length/\lenD<=capD:=by
  rcases h.own.2 with ⟨e1,e2⟩ |⟨g,cap,cur,e1,e2,e3,e4,e5,_⟩
  ·exact⟨none,0,0,e1,e2.symm,Nat.le_refl _⟩
  ·exact⟨_,_,_,e1,rfl,e4⟩
 obtain⟨lo,hlo⟩:=ex (i*n);have b0:(0:Int)<=lo:=by omega
 have b1:(lo:Int)<=lo+n:=by omega
 have b2:(lo:Int)+n<=capD:=by omega
 have b3:(lo:Int)+n<=8589934592:=by omega
 have b4:(lo:Int)<=8589934592:=by omega
 have b5:(i:Int)*(n:Int)=lo:=by rw [←hlo];simp
 have b6:((i:Int)+1)*(n:Int)=lo+n:=by rw [Int.add_mul,b5];omega
 have b7:(i:Int)+1<=536870912:=by omega
 have b8:(0:Int)<=i:=by omega
 have b9:(lo:Int)+n-lo=n:=by omega
 have hans:qap w.heap.size w (.slice (if lo+n=lo then ad else ad.map (·.add (lo*1))) n n) t:=by
  refine⟨_,n,by rw [hlen],by omega,⟨by omega,by simp only [maxLen];omega⟩,fun k x hk=>?_⟩;have hkl:=(List.getElem?_eq_some_iff.1 hk).1;rw [if_neg (by omega)];have hf:=qxe h.len hi hk;have hown:=h.own;rw [←hlc]at hown;rcases hown.2 with ⟨e1,e2⟩ |⟨g,cap,cur,e1,e2,e3,e4,e5,_⟩
  ·have:=(List.getElem?_eq_some_iff.1 hf).1;omega
  ·injection e1 with q1 q2 q3
   subst q1;have:=qb7 hown (lo+k) (.int .i64 x) (by rw [←hlo,getElem?_map,hf];rfl);refine⟨g,lo,by simp [Addr.add];exact fun e=>e.symm,qe e3,?_⟩
   simpa [qfr]using this
 have hans1:n=0->qap w.heap.size w (.slice ad 0 0) t:=fun h0=>by subst h0;simpa using hans
 have hans2: ¬n=0->qap w.heap.size w (.slice (ad.map (·.add lo)) n n) t:=fun h0=>by
  rw [if_neg (by omega),Nat.mul_one]at hans;exact hans
 clear hi hil hfl hmul hmul2 hsm hlc hans;refine hd4 ?_ h hans1 hans2 hlen;clear h hans1 hans2 hlen;intro Xh Xhans1 Xhans2 Xhlen
 go_enter Tryz.func154,Tryz.ntmps154
 go_wp2_with fail
 go_region
 clear b0 b1 b2 b3 b4 b5 b6 b7 b8 b9 hlo c0 c1;go_wp2_with fail
 all_goals go_ret
 ·exact⟨_,rfl,kDr,rfl,Xhans1.o (by omega),Xhlen.o⟩
 ·exact⟨_,rfl,kDr,rfl,Xhans2.o (by omega),Xhlen.o⟩
end Go.Proofs.R4
namespace Go.Proofs.R4
open Go.RowKit Go.Ink
theorem qv9 (ts:List (List Int))(t:List Int):qd7 (ts++ [t])=qd7 ts++ [(qa6 t,ts.length)]:=by
 simp [qd7,zipIdx_append]
theorem ql2 (ts:List (List Int))(i:Nat):(qd7 ts)[i]?=(ts[i]?).map fun t=>(qa6 t,i):=by
 simp only [qd7,getElem?_map,getElem?_zipIdx,Option.map_map,Nat.zero_add];cases ts[i]?<;>rfl
theorem qwa {ts:List (List Int)}{t:List Int}{i:Nat}(h:qe1 ts t=some i):ts[i]?=some t:=by
 have:=find?_some h
 simpa using this
theorem qkw {ts:List (List Int)}{t:List Int}(h:qe1 ts t=none):t∉ts:=by
 intro hm;obtain⟨i,hi⟩:=mem_iff_getElem?.1 hm;have:=find?_eq_none.1 h i (by rw [mem_range];exact(List.getElem?_eq_some_iff.1 hi).1);simp [hi]at this
theorem qp3 {n:Nat}{ts:List (List Int)}{t:List Int}(hts: ∀s∈ts,s.length=n)(ht:t.length=n)(hk:((qd7 ts).map (·.1)).Nodup):qc1 (qd7 ts) (qa6 t)=qe1 ts t:=by
 cases h:qe1 ts t with
 |some i=>
  have h1:=qwa h;exact qop hk (j:=i) (p:=(qa6 t,i)) (by rw [ql2,h1];rfl)
 |none=>
  refine qlo fun hm=>?_;obtain⟨p,hp,he⟩:=mem_map.1 hm;obtain⟨i,hi⟩:=mem_iff_getElem?.1 hp;rw [ql2]at hi;cases hs:ts[i]? with
  |none=>rw [hs] at hi;cases hi
  |some s=>
   rw [hs]at hi;simp only [Option.map_some,Option.some.injEq]at hi;subst hi;have:s=t:=qq1 he ((hts s (mem_of_getElem? hs)).trans ht.symm);subst this;exact qkw h (mem_of_getElem? hs)
theorem ql3 {n:Nat}{t:List Int}(h:qdb n t=true):t.length=n:=by
 simp only [qdb,Bool.and_eq_true,decide_eq_true_eq]at h;exact h.1
def TagNew (tag tag':qb2)(w:World):Prop:= ∀b T,tag' b=some T->(∃T',tag b=some T')∨w.heap.size<=b
theorem TagNew.refl (tag:qb2)(w:World):TagNew tag tag w:=fun b T h=>.inl ⟨T,h⟩
theorem TagNew.trans {s t u:qb2}{w w':World}(h:TagNew s t w)(g:TagNew t u w')(hz:w.heap.size<=w'.heap.size):TagNew s u w:=fun b T hb=>by
 rcases g b T hb with ⟨T',h1⟩ |h1
 ·exact h b T' h1
 ·exact .inr (by omega)
theorem TagStep.newT {c:List Bool}{tag tag':qb2}{w w':World}(h:TagStep c tag tag' w w'):TagNew tag tag' w:=fun b T hb=>by
 rcases Nat.lt_or_ge b w.heap.size with hl |hl
 ·cases hT:tag b with
  |some T'=>exact .inl ⟨T',rfl⟩
  |none=>
   have:=h.old b hl (by rw [hT];exact fun e=>(by cases e));rw [hb,hT]at this;cases this
 ·exact .inr hl
theorem q57 {tag:qb2}{w w1 w2 w3 w4:World}{B n:Nat}{ts:List (List Int)}{vD vD':Value}{P K:Nat}{lm:List (List Bool×Nat)}(h:qb6 tag w B n ts vD P K lm){t:List Int}(hr:qdb n t=true)(hok:okT t)(hno:qe1 ts t=none)
  (hk0:Keep (fun b=>b<w.heap.size) w w1) (hm:quj w2 P (setK (qd7 ts) (qa6 t) ts.length)) (hk1:Keep (fun b=>b≠P) w1 w2) (ho:w3.ownsRow 0 3 1 vD' (ts.flatten.length+t.length) (ts.flatten.map (.int .i64)++t.map (.int .i64)))
  (hg: ∀g,vD'.ownBlock=some g->vD.ownBlock=some g∨w2.heap.size<=g) (hk2:Keep (fun b=>vD'.ownBlock≠some b) w2 w3) (hb:w4.heap[B]?=some (.cells (qfc n vD' (ts.length+1) P K).toArray 171 (0,0))) (hk3:Keep (fun b=>b≠B) w3 w4):
  ∃tag',RelG tag' w4 B n (ts++ [t]) (fun _=>ts) vD' P K lm/\TagLe tag tag'/\TagNew tag tag' w/\Keep (fun b=>tag b=none) w w4/\(∀b,vD'.ownBlock≠some b->tag' b=tag b):=by
 have hw:w.heap.size<=w1.heap.size:=hk0.size;have hz1:=hk1.size;have hz2:=hk2.size;have hz3:=hk3.size;have hgt: ∀g,vD'.ownBlock=some g->(tag g=some .data∨(tag g=none/\w2.heap.size<=g))/\g<w3.heap.size:=fun g hgg=>by
  refine⟨?_,(World.ownsRow.lt ho g hgg).2⟩;rcases hg g hgg with h1 |h1
  ·exact .inl (h.tagD g h1)
  ·refine .inr ⟨?_,h1⟩;cases hT:tag g with
   |none=>rfl
   |some T=>have:=h.lt g T hT;omega
 have hKK:Keep (fun b=>b<w.heap.size/\b≠P/\vD'.ownBlock≠some b/\b≠B) w w4:=(hk0.mono fun b _ h=>h.1).trans ((hk1.mono fun b _ h=>h.2.1).trans ((hk2.mono fun b _ h=>h.2.2.1).trans (hk3.mono fun b _ h=>h.2.2.2)));have hne: ∀b T,tag b=some T->T≠.data->vD'.ownBlock≠some b:=fun b T hb hT e=>by
  rcases(hgt b e).1 with h1 |⟨h1,_⟩
  ·rw [hb]at h1;cases h1;exact hT rfl
  ·rw [hb]at h1;cases h1
 have hside: ∀b T,tag b=some T->T≠.data->T≠.pmap->T≠.box->b<w.heap.size/\b≠P/\vD'.ownBlock≠some b/\b≠B:=fun b T hb h1 h2 h3=>
  ⟨h.lt b T hb,fun e=>h2 (by rw [e,h.tagP] at hb;cases hb;rfl),hne b T hb h1,fun e=>h3 (by rw [e,h.tagB] at hb;cases hb;rfl)⟩
 have htag: ∀b,vD'.ownBlock≠some b->(fun b=>if vD'.ownBlock=some b then some Tag.data else tag b) b=tag b:=fun b hb=>if_neg hb;refine⟨fun b=>if vD'.ownBlock=some b then some .data else tag b,?_,?_,?_,?_,htag⟩
 ·refine⟨(htag B (hne B _ h.tagB (fun e=>(by cases e)))).trans h.tagB,?_,h.n16,?_,?_,?_,?_,?_,(htag P (hne P _ h.tagP (fun e=>(by cases e)))).trans h.tagP,?_,(htag K (hne K _ h.tagK (fun e=>(by cases e)))).trans h.tagK,?_,?_,?_,?_⟩
  ·rw [length_append,length_singleton];exact hb
  ·rw [nodup_append];exact⟨h.nodup,by simp,fun a ha b hb e=>qkw hno (by simp at hb;subst hb;rw [←e];exact ha)⟩
  ·intro s hs;rcases mem_append.1 hs with hs |hs
   ·exact h.right s hs
   ·simp at hs;subst hs;exact hr
  ·intro s hs;rcases mem_append.1 hs with hs |hs
   ·exact h.ok s hs
   ·simp at hs;subst hs;exact hok
  ·have:=qg ho hk3 (fun b hbo e=>by rw [e] at hbo;exact hne B _ h.tagB (fun e=>(by cases e)) hbo)
   simpa using this
  ·intro b hb;exact if_pos hb
  ·have hkeys:qa6 t∉(qd7 ts).map (·.1):=fun hm2=>by
    obtain⟨p,hp,he⟩:=mem_map.1 hm2;obtain⟨i,hi⟩:=mem_iff_getElem?.1 hp;rw [ql2]at hi;cases hs:ts[i]? with
    |none=>rw [hs] at hi;cases hi
    |some s=>
     rw [hs]at hi;simp only [Option.map_some,Option.some.injEq]at hi;subst hi;have:s=t:=qq1 he ((h.len s (mem_of_getElem? hs)).trans (ql3 hr).symm);subst this;exact qkw hno (mem_of_getElem? hs)
   have hset:setK (qd7 ts) (qa6 t) ts.length=qd7 (ts++ [t]):=by
    rw [qv9];unfold setK;rw [if_neg hkeys]
   rw [←hset];exact(hm.keep hk2 (hne P _ h.tagP (fun e=>(by cases e)))).keep hk3 (fun e=>by have:=h.tagP;rw [e,h.tagB] at this;cases this)
  ·exact h.kmap.keep hKK (hside K _ h.tagK (fun e=>(by cases e)) (fun e=>(by cases e)) (fun e=>(by cases e)))
  ·intro c L hcl;obtain⟨l,vl,M,m,hl⟩:=h.looks c L hcl;refine⟨l,vl,M,m,hl.keep hKK (fun b hb=>?_) (fun b hb=>?_) (fun b hb=>?_)⟩
   ·cases hT:tag b with
    |none=>rw [hT] at hb;cases hb
    |some T=>
     rw [hT]at hb;exact hside b T hT (fun e=>by subst e;cases hb) (fun e=>by subst e;cases hb) (fun e=>by subst e;cases hb)
   ·refine htag b fun e=>?_;rcases(hgt b e).1 with h1 |⟨h1,_⟩<;>(rw [h1] at hb;cases hb)
   ·by_cases e:vD'.ownBlock=some b
    ·simp only [if_pos e]at hb;cases hb
    ·exact if_neg e
  ·intro b c hb;by_cases e:vD'.ownBlock=some b
   ·simp only [if_pos e]at hb;cases hb
   ·simp only [if_neg e]at hb;exact h.ents b c hb
  ·intro b T hb;by_cases e:vD'.ownBlock=some b
   ·have:=(hgt b e).2;omega
   ·simp only [if_neg e]at hb;have:=h.lt b T hb;omega
 ·intro b T hb;by_cases e:vD'.ownBlock=some b
  ·rcases(hgt b e).1 with h1 |⟨h1,_⟩
   ·rw [hb]at h1;cases h1;exact .inl (if_pos e)
   ·rw [hb]at h1;cases h1
  ·exact .inl (by rw [←hb];exact if_neg e)
 ·intro b T hb;by_cases e:vD'.ownBlock=some b
  ·rcases(hgt b e).1 with h1 |⟨_,h1⟩
   ·exact .inl ⟨_,h1⟩
   ·exact .inr (by omega)
  ·simp only [if_neg e]at hb;exact .inl ⟨T,hb⟩
 ·refine⟨hKK.os,hKK.tape,hKK.output,hKK.size,fun b hb hC=>hKK.block b hb ⟨hb,fun e=>?_,fun e=>?_,fun e=>?_⟩⟩
  ·rw [e,h.tagP]at hC;cases hC
  ·rcases(hgt b e).1 with h1 |⟨_,h1⟩
   ·rw [h1]at hC;cases hC
   ·omega
  ·rw [e,h.tagB]at hC;cases hC
theorem RelG.to {tag:qb2}{w:World}{B n:Nat}{ts:List (List Int)}{tsl tsl':List Bool->List (List Int)}{vD:Value}{P K:Nat}{lm:List (List Bool×Nat)}(h:RelG tag w B n ts tsl vD P K lm)(ht: ∀c L,(c,L)∈lm->tsl c=tsl' c):RelG tag w B n ts tsl' vD P K lm:=
 {h with looks:=fun c L hcl=>by rw [←ht c L hcl];exact h.looks c L hcl}
theorem qxf {n:Nat}{l:List Int}(h:qdo n l=true): ∀i,i<l.length->(i:Int)<=l.getD i 0
 |0,hi=>by
  have:=all_eq_true.1 h 0 (by simpa using hi);simp only [qhw,Bool.and_eq_true,decide_eq_true_eq]at this;exact this.1.1
 |i+1,hi=>by
  have:=all_eq_true.1 h (i+1) (by simpa using hi);simp only [qhw,Bool.and_eq_true,decide_eq_true_eq,Bool.or_eq_true,beq_iff_eq]at this;have h1:=qxf h i (by omega);rcases this.2 with h2 |h2
  ·omega
  ·have h3:i+1-1=i:=by omega
   rw [h3]at h2
   push_cast
   omega
theorem qoy {n:Nat}{l:List Int}(h:qdo n l=true):l.length<=n:=by
 rcases Nat.eq_zero_or_pos l.length with h0 |h0
 ·omega
 ·have h1:=qxf h (l.length-1) (by omega);have:=all_eq_true.1 h (l.length-1) (by simp;omega);simp only [qhw,Bool.and_eq_true,decide_eq_true_eq]at this;omega
theorem q38 {tag tag':qb2}{w w':World}{B n:Nat}{ts:List (List Int)}{tsl tsl':List Bool->List (List Int)}{vD:Value}{P K:Nat}{lm:List (List Bool×Nat)}(h:RelG tag w B n ts tsl vD P K lm){c:List Bool}{L:Nat}(hc:(c,L)∈lm)(ht1:tsl' c=ts)(ht2: ∀c',c'≠c->tsl' c'=tsl c')
  {l:List Int} {vl:Value} {M:Nat} {m:List (List Int×Value)} (hl:LookAt tag' w' n ts c L l vl M m) (hs:TagStep c tag tag' w w') (hk:Keep (fun b=>qb5 (tag b)≠some c) w w'):RelG tag' w' B n ts tsl' vD P K lm:=by
 have hold: ∀b T,tag b=some T->qb5 (some T)≠some c->tag' b=some T:=fun b T hb hT=>(hs.old b (h.lt b T hb) (by rw [hb];exact hT)).trans hb;have hk2: ∀b T,tag b=some T->qb5 (some T)≠some c->qb5 (tag b)≠some c:=fun b T hb hT=>by rw [hb];exact hT
 obtain⟨es0,c0,q1,q2,q3,q4,q5⟩:=id h.kmap;have huniq: ∀L',(c,L')∈lm->L'=L:=fun L' hL'=>by
  obtain⟨i,hi⟩:=mem_iff_getElem?.1 hc;obtain⟨j,hj⟩:=mem_iff_getElem?.1 hL';have e1:(lm.map (·.1))[i]?=some c:=by rw [getElem?_map,hi];rfl
  have e2:(lm.map (·.1))[j]?=some c:=by rw [getElem?_map,hj];rfl
  have:=(getElem?_inj (List.getElem?_eq_some_iff.1 e1).1 q3).1 (e1.trans e2.symm);subst this;rw [hi]at hj;cases hj
  rfl
 refine⟨hold B _ h.tagB (fun e=>(by cases e)),hk.heap h.box (hk2 B _ h.tagB (fun e=>(by cases e))),h.n16,h.nodup,h.right,h.ok,qg h.own hk (fun b hb=>hk2 b _ (h.tagD b hb) (fun e=>(by cases e))),fun b hb=>hold b _ (h.tagD b hb) (fun e=>(by cases e)),hold P _ h.tagP (fun e=>(by cases e)),h.pmap.keep hk (hk2 P _ h.tagP (fun e=>(by cases e))),hold K _ h.tagK (fun e=>(by cases e)),h.kmap.keep hk (hk2 K _ h.tagK (fun e=>(by cases e))),?_,?_,fun b T hb=>(hs.new b T hb).1⟩
 ·intro c' L' hcl;by_cases he:c'=c
  ·subst he;rw [huniq L' hcl,ht1];exact⟨_,_,_,_,hl⟩
  ·rw [ht2 c' he];obtain⟨l',vl',M',m',hl'⟩:=h.looks c' L' hcl;refine⟨l',vl',M',m',hl'.keep hk (fun b hb=>by rw [hb];exact fun e=>he (by injection e)) (fun b hb=>?_) (fun b hb=>?_)⟩
   ·cases hT:tag b with
    |none=>rw [hT] at hb;cases hb
    |some T=>exact hold b T hT (by rw [←hT,hb];exact fun e=>he (by injection e))
   ·cases hT:tag b with
    |none=>
     cases hT':tag' b with
     |none=>rfl
     |some T'=>
      rcases Nat.lt_or_ge b w.heap.size with hlt |hge
      ·have:=hs.old b hlt (by rw [hT];exact fun e=>(by cases e));rw [hT',hT]at this;cases this
      ·have:=(hs.new b T' hT').2 hge;rw [←hT',hb]at this;exact absurd (by injection this) he
    |some T=>
     by_cases hTc:qb5 (some T)=some c
     ·rcases hs.le b T hT with h1 |⟨c2,k2,p2,p3,rfl,h1,_⟩
      ·rw [h1,hTc]at hb;exact absurd (by injection hb with hb;exact hb.symm) he
      ·rw [h1]at hb;have e1:c2=c:=by simpa [qb5] using hTc
       have e2:c2=c':=by simpa [qb5] using hb
       exact absurd (e2.symm.trans e1) he
     ·exact(hold b T hT hTc)
 ·intro b c' hb;rcases hs.ents b c' hb with h1 |h1
  ·exact h.ents b c' h1
  ·subst h1;exact⟨L,hc⟩
end Go.Proofs.R4
