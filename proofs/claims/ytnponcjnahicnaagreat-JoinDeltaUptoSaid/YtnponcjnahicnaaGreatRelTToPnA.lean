/- Parts of the proof. -/
import Derived.Test.YtnponcjnahicnaaGreatRelQToRelS
set_option linter.unusedSimpArgs false
set_option linter.unusedVariables false
set_option maxRecDepth 100000
set_option maxHeartbeats 4000000
open Go.Proofs.Tryz(prog)
open List(all_append append_toArray cons_append filter_congr filter_eq_nil_iff filter_filter getElem?_drop length_cons length_nil nil_append pairwise_iff_getElem pairwise_lt_range push_toArray singleton_append size_toArray)
namespace Go.Proofs.R4
open Go.RowKit Go.Ink
attribute [local go_sem] Oper.semAt_some
def BoxAt (w:World)(b t:Nat)(v:Value):Prop:=w.heap[b]?=some (.cells #[v] t (0,0))
theorem BoxAt.keep {w w':World}{b t:Nat}{v:Value}{C:Nat->Prop}(h:BoxAt w b t v)(hK:Keep C w w')(c:C b):BoxAt w' b t v:=hK.heap h c
theorem BoxAt.cell {w:World}{b t:Nat}{v:Value}(h:BoxAt w b t v):w.cell? ⟨b,0,none⟩=some v:=qbz h
theorem BoxAt.lt {w:World}{b t:Nat}{v:Value}(h:BoxAt w b t v):b<w.heap.size:=qe h
structure MatchV (n0 n1 bR bL bK bT bF B:Nat)(vl vk:Value)(lo hi:Int)(cols key:List Int)(w:World):Prop where
 r:BoxAt w bR 123 (.pointer (some ⟨B,0,none⟩))
 l:BoxAt w bL 86 vl
 k:BoxAt w bK 86 vk
 t:BoxAt w bT 3 (.int .i64 hi)
 f:BoxAt w bF 3 (.int .i64 lo)
 ol:w.ownsRow n0 3 1 vl cols.length (cols.map (.int .i64))
 ok:w.ownsRow n0 3 1 vk key.length (key.map (.int .i64))
 bl: ∀b,vl.ownBlock=some b->b<n1
 bk: ∀b,vk.ownBlock=some b->b<n1
 at':(n0<=bR/\bR<n1)/\(n0<=bL/\bL<n1)/\(n0<=bK/\bK<n1)/\(n0<=bT/\bT<n1)/\(n0<=bF/\bF<n1)
theorem MatchV.keep {n0 n1 z u q bT g B:Nat}{p m:Value}{lo hi:Int}{c key:List Int}{w w':World}{C:Nat->Prop}(h:MatchV n0 n1 z u q bT g B p m lo hi c key w)(hK:Keep C w w')(d: ∀b,n0<=b->b<n1->C b):MatchV n0 n1 z u q bT g B p m lo hi c key w':=by
 obtain⟨x,v,R,s,y⟩:=h.at';exact⟨h.r.keep hK (d _ x.1 x.2),h.l.keep hK (d _ v.1 v.2),h.k.keep hK (d _ R.1 R.2),h.t.keep hK (d _ s.1 s.2),h.f.keep hK (d _ y.1 y.2),
  qf h.ol hK (fun b e=>d b (zE h.ol b e).1 (h.bl b e)),qf h.ok hK (fun b e=>d b (zE h.ok b e).1 (h.bk b e)),h.bl,h.bk,h.at'⟩
theorem qvl (w:World)(B m:Nat)(vc vk:Value)(d key:List Int)(lo hi:Int)(hs:qat m w vc d)(X:qat m w vk key)(hm:m<=w.heap.size):
  Calls prog 122 #[.pointer (some ⟨B,0,none⟩),vc,vk,.int .i64 lo,.int .i64 hi] w fun e w'=> ∃bR bL bK bT bF vl vk',
   e=.returned (.func (.func 152) #[] #[.pointer (some ⟨bR,0,none⟩),.pointer (some ⟨bL,0,none⟩),.pointer (some ⟨bK,0,none⟩),.pointer (some ⟨bT,0,none⟩),.pointer (some ⟨bF,0,none⟩)])/\
   wG w w'/\MatchV w.heap.size w'.heap.size bR bL bK bT bF B vl vk' lo hi d key w':=by
 obtain⟨a,cc,rfl,aU,bk,ap⟩:=id hs;obtain⟨ak,ck,rfl,aA,a7,af⟩:=id X;obtain⟨W0,z⟩:=ex (((w.alloc (.cells #[.pointer (some ⟨B,0,none⟩)] 123)).alloc (.cells #[.int .i64 lo] 3)).alloc (.cells #[.int .i64 hi] 3));have k0:wG w W0:=by rw [←z];exact(kAl.trans kAl).trans kAl
 have z0:W0.heap.size=w.heap.size+3:=by rw [←z];simp
 have r0:BoxAt W0 w.heap.size 123 (.pointer (some ⟨B,0,none⟩)):=by rw [←z];unfold BoxAt;simp only [qao,zO];simp<;>omega
 have f0:BoxAt W0 (w.heap.size+1) 3 (.int .i64 lo):=by rw [←z];unfold BoxAt;simp only [qao,zO];simp<;>omega
 have t0:BoxAt W0 (w.heap.size+2) 3 (.int .i64 hi):=by rw [←z];unfold BoxAt;simp only [qao,zO];simp<;>omega
 have R: ∀(W:World) (a:Option Addr) (c:Nat) (l:List Int),l.length<=1073741824->qat m W (.slice a l.length c) l->m<=W.heap.size-> ∃a' c' W',(Builtin.append_ #[86,86] 86 #[.slice (some ⟨W.heap.size,0,none⟩) 0 0,.slice a l.length c]).run prog (W.alloc (.cells #[] 3))=.ok (.slice a' l.length c') W'/\
   W'.ownsRow W.heap.size 3 1 (.slice a' l.length c') l.length (l.map (.int .i64))/\wG W W':=by
  intro W a c l hl hi bv;have k1:wG W (W.alloc (.cells #[] 3)):=kAl;have aY:(W.alloc (.cells #[] 3)).ownsRow W.heap.size 3 1 (.slice (some ⟨W.heap.size,0,none⟩) 0 0) 0 []:=xg W #[] 0 (zG _) (by simp [maxLen]) rfl;have aN:=qeg hi (m:=m) k1.mt (zG _);have aC:=qgo (sz:=1) ic (fun _=>rfl) wC (E:=qgc) (fun b o x h j u hj=>by
   have aT:j=0:=by have:=(zA.1 hj).1;simp [ic] at this;exact this
   subst aT;simp [ic]at hj;subst hj;exact h) aN rfl
  obtain⟨va,W3,aK,aa,bj,aP⟩:=qhz (P:=prog) qnm 86 aY a l.length c (l.flatMap ic) (qa4 _ 1 (fun _=>rfl) _) aC.1 aC.2 (qj9 _ (by simp [ic,Value.oneCell']) _) wC wE;rw [qnl,nil_append,zD]at aa;obtain⟨a',c',rfl⟩:=qj aa;exact⟨a',c',W3,aK,aa,(k1.mt.trans (aP.mono (C':=fun b=>b<W.heap.size) fun b _ h e=>by have:=(zE aa b e).1;omega)).mono fun b q _=>q⟩
 have ar:=qeg hs (m:=m) k0.mt (zG _);obtain⟨al,cl,W2,ai,ag,k2⟩:=R W0 a cc d aU ar wC;have aQ:=k2.size;have ab:=qeg (qeg X (m:=m) k0.mt (zG _)) (m:=m) k2.mt (zG _);obtain⟨s,r,p,aE,am,k4⟩:=R W2 ak ck key aA ab wC;have aR:=k4.size;obtain⟨W5,Y⟩:=ex ((p.alloc (.cells #[.slice none 0 0] 86)).alloc (.cells #[.slice none 0 0] 86));have k5:wG p W5:=by rw [←Y];exact kAl.trans kAl
 have z5:W5.heap.size=p.heap.size+2:=by rw [←Y];simp
 have l5:BoxAt W5 p.heap.size 86 (.slice none 0 0):=by rw [←Y];unfold BoxAt;simp only [qao,zO];simp<;>omega
 have v5:BoxAt W5 (p.heap.size+1) 86 (.slice none 0 0):=by rw [←Y];unfold BoxAt;simp only [qao,zO];simp<;>omega
 obtain⟨W6,ah⟩:=ex (W5.setCell ⟨p.heap.size,0,none⟩ (.slice al d.length cl));have l6:BoxAt W6 p.heap.size 86 (.slice al d.length cl):=by rw [←ah];exact qgn _ l5
 have k6:Keep (fun b=>b≠p.heap.size) W5 W6:=by rw [←ah];exact kSc
 have v6:=v5.keep k6 wC;obtain⟨W7,aj⟩:=ex (W6.setCell ⟨p.heap.size+1,0,none⟩ (.slice s key.length r));have v7:BoxAt W7 (p.heap.size+1) 86 (.slice s key.length r):=by rw [←aj];exact qgn _ v6
 have k7:Keep (fun b=>b≠p.heap.size+1) W6 W7:=by rw [←aj];exact kSc
 have l7:=l6.keep k7 wC;have t:Keep (fun b=>b<p.heap.size) p W7:=k5.mt.trans ((k6.mono fun b _ h=>wC).trans (k7.mono fun b _ h=>wC));have an:wG w W7:=(k0.mt.trans (k2.mt.trans (k4.mt.trans (t.mono (C':=fun b=>b<w.heap.size) fun b _ h=>wC)))).mono fun b q _=>q;have z7:W7.heap.size=W5.heap.size:=by rw [←aj,←ah];simp [World.setCell]
 have U: ∀b,Value.ownBlock (.slice al d.length cl)=some b->W0.heap.size<=b/\b<W2.heap.size:=fun b q=>zE ag b q;have y: ∀b,Value.ownBlock (.slice s key.length r)=some b->W2.heap.size<=b/\b<p.heap.size:=fun b q=>zE am b q;have hV:MatchV w.heap.size W7.heap.size w.heap.size p.heap.size (p.heap.size+1) (w.heap.size+2) (w.heap.size+1) B (.slice al d.length cl) (.slice s key.length r) lo hi d key W7:=by
  have kk:Keep (fun b=>b<W0.heap.size) W0 W7:=k2.mt.trans (k4.mt.trans (t.mono fun b _ h=>wC));refine⟨r0.keep kk wC,l7,v7,t0.keep kk wC,f0.keep kk wC,?_,?_,fun b q=>by have:=U b q;omega,fun b q=>by have:=y b q;omega,⟨wC,wC⟩,⟨wC,wC⟩,⟨wC,wC⟩,⟨wC,wC⟩,wC,wC⟩
  ·have h1:=qf (qf ag k4 (fun _ _=>wH)) t (fun b q=>by have:=U b q;omega);exact⟨h1.1,h1.2.imp id (fun⟨g,cap,cur,e1,e2,e3⟩=>⟨g,cap,cur,e1,wC,e3⟩)⟩
  ·have h1:=qf am t (fun b q=>by have:=y b q;omega);exact⟨h1.1,h1.2.imp id (fun⟨g,cap,cur,e1,e2,e3⟩=>⟨g,cap,cur,e1,wC,e3⟩)⟩
 have bn:=l5.cell;have bu:=qg l5 0;have bi:=v6.cell;have bl:=qg v6 0;obtain⟨n0,aW⟩:=ex (W0.heap.size);have bt:p.heap.size<W5.heap.size:=wC
 have bo:p.heap.size+1<W6.heap.size:=v6.lt;clear R ar ag ab am l5 v5 l6 v6 v7 l7 t k7 k6 k5 U y z7 z5 aQ aR k0 k2 k4 r0 f0 t0 z0;rw [aW]at ai;refine hd8 ?_ hs X ap af ai aE hV an;clear hs X ap af ai aE hV an;intro bp a8 ba aS aF au aV aB
 go_enter Tryz.func122,Tryz.ntmps122
 go_wp2_with (first
  |(at_builtin;refine qbu (v:=.slice (some ⟨n0,0,none⟩) 0 0) (u:=.slice a d.length cc) (v':=.slice al d.length cl) (w':=W2) rfl (.tmp 13) (.tmp 14) 86 rfl rfl rfl aF.o ?_)
  |(at_builtin;refine qbu (v:=.slice (some ⟨W2.heap.size,0,none⟩) 0 0) (u:=.slice ak key.length ck) (v':=.slice s key.length r) (w':=p) rfl (.tmp 16) (.tmp 17) 86 rfl rfl rfl au.o ?_))
 go_ret;exact⟨_,_,_,_,_,_,_,rfl,aB.o,aV.o⟩
theorem q3h {n:Nat}{t b key:List Int}(s:n<=16)(u:t.length=n)(l:qd8 n b=true)(r:key.length=b.length):qlf t b key=decide (qcr t b=qbc key):=by
 have m:=qof l;have c:(qcr t b=qbc key)↔qe3 t b=key:=by
  constructor
  ·intro h;exact qrv h (by rw [qke,r])
  ·intro h;unfold qcr;rw [h]
 have q:qlf t b key=true↔qe3 t b=key:=by
  unfold qlf;rw [yM];constructor
  ·intro h;apply xZ;intro j;by_cases d:j<b.length
   ·have:=h j (by simpa using d);simp only [zT]at this;rw [←this];have g:b[j]?=some b[j]:=zB d;have p:=m b[j] (xG d);unfold qe3;rw [zP,g,zJ,g];simp only [Option.map_some,Option.getD_some];rw [zJ,zB wC]
    rfl
   ·rw [xD (by rw [qke];omega),xD wC]
  ·rintro rfl j d;rw [yk]at d;have g:b[j]?=some b[j]:=zB d;have p:=m b[j] (xG d);unfold qe3;rw [zT,zP,g,zJ,g];simp only [Option.map_some,Option.getD_some];rw [zJ,zB wC]
   rfl
 by_cases h:qe3 t b=key
 ·rw [q.2 h,zS (c.2 h)]
 ·rw [zM (fun e=>h (c.1 e)),Bool.eq_false_iff];exact fun e=>h (q.1 e)
def qe8 (lo hi:Int)(i:Nat):Bool:=decide (lo<=(i:Int))&&decide ((i:Int)<hi)
theorem q3i {n:Nat}{ts:List (List Int)}{b key:List Int}{lo hi:Int}(h:n<=16)(e: ∀t∈ts,t.length=n)(c:qd8 n b=true)(g:key.length=b.length):qet n ts b key lo hi=(idx ts b (qbc key)).filter (qe8 lo hi):=by
 unfold qet idx;rw [zI (by rw [c,zS g];rfl),filter_filter];refine filter_congr fun i d=>?_;rw [yk]at d;unfold qzo qe8;rw [q3h h (e _ (by rw [zJ,zB d];exact xG d)) c g]
theorem q3j {n:Nat}{ts:List (List Int)}{b key:List Int}{lo hi:Int}(h:(qd8 n b&&decide (key.length=b.length))=false):qet n ts b key lo hi= []:=by
 unfold qet;rw [zF (by rw [h];simp)]
theorem q5y (ts b:List (List Int))(l k:List Int){j i:Nat}(h:(idx ts l k)[j]?=some i):(idx (ts++b) l k)[j]?=some i:=by
 induction b generalizing ts with
 |nil=>simpa using h
 |cons u b ih=>
  rw [←singleton_append,←yu];refine ih (ts++ [u]) ?_;rw [qll,yS (zA.1 h).1];exact h
theorem q82 {ts:List (List Int)}{l k:List Int}{j i:Nat}(h:(idx ts l k)[j]?=some i):i<ts.length:=by
 have:=zH h;unfold idx at this;rw [yX,yk]at this;exact this.1
theorem q0h (ts:List (List Int))(l k:List Int):(idx ts l k).Pairwise (· < ·):=List.Pairwise.filter _ pairwise_lt_range
def qe7 (lo hi:Int)(pl:List Nat)(j:Nat):Nat:=((pl.take j).filter (qe8 lo hi)).length
theorem qq5 (lo hi:Int)(b:List Nat){j i:Nat}(d:b[j]?=some i):b.filter (qe8 lo hi)=(b.take j).filter (qe8 lo hi)++((if qe8 lo hi i=true then [i] else [])++(b.drop (j+1)).filter (qe8 lo hi)):=by
 have c:=(zA.1 d).1;have e:=(zA.1 d).2
 conv=>lhs;rw [←yy j b,zt c,e]
 rw [yV,yg];split<;>simp
theorem q5z {lo hi:Int}{b:List Nat}{j i:Nat}(c:b[j]?=some i)(h:qe8 lo hi i=true):(b.filter (qe8 lo hi))[qe7 lo hi b j]?=some i/\qe7 lo hi b (j+1)=qe7 lo hi b j+1:=by
 constructor
 ·rw [qq5 lo hi b c,zI h];unfold qe7;rw [yH (zG _),xa]
  rfl
 ·unfold qe7;rw [zh,c,yV];simp [h]
theorem q7z {lo hi:Int}{b:List Nat}{j i:Nat}(c:b[j]?=some i)(h:qe8 lo hi i=false):qe7 lo hi b (j+1)=qe7 lo hi b j:=by
 unfold qe7;rw [zh,c,yV];simp [h]
theorem q50 {lo hi:Int}{b:List Nat}(p:b.Pairwise (· < ·)){j i:Nat}(d:b[j]?=some i)(h:hi<=(i:Int)):qe7 lo hi b j=(b.filter (qe8 lo hi)).length:=by
 have c:=(zA.1 d).1;have m:=(zA.1 d).2;have t:qe8 lo hi i=false:=by unfold qe8;rw [zM (by omega: ¬(i:Int)<hi),yP]
 rw [qq5 lo hi b d,t];have r:(b.drop (j+1)).filter (qe8 lo hi)= []:=by
  refine filter_eq_nil_iff.2 fun x s=>?_;obtain⟨q,e⟩:=zy.1 s;rw [getElem?_drop]at e;have g:=(zA.1 e).1;have l:=(zA.1 e).2;have:=(pairwise_iff_getElem.1 p) j (j+1+q) c g wC;rw [m,l]at this;unfold qe8;rw [zM (by omega: ¬(x:Int)<hi),yP];simp
 rw [r];unfold qe7;simp
theorem q51 (lo hi:Int)(b:List Nat):qe7 lo hi b b.length=(b.filter (qe8 lo hi)).length:=by unfold qe7;rw [zi]
theorem q70 {F:Fence}{n:Nat}{P:Program}{w w':World}{ops:Array Oper}{rest:List Oper}{o:Oper}{a:Act}{Q:Exit->Act->World->Prop}{v u v':Value}
  (e:Region.wanted o (yielded ops a.tmps)=true) (s x:Operand) (t:TypeId) (b:o.op=Op.call {callee:=Callee.builtin Builtin.append,args:= #[s,x],argTypes:= #[t,t]}) (hs:a.eval s=v) (hx:a.eval x=u)
  (hrun:(Builtin.append_ #[t,t] o.type #[v,u]).run P w=.ok v' w') (hK:wpListIn F n P ops Q rest (a.put o.dst v') w'):wpListIn F n P ops Q (o::rest) a w:=by
 unfold wpListIn;rw [zI e];unfold Oper.wpIn;refine⟨?_,?_⟩
 ·simp [Oper.about,b,resolve,Target.leads,Sem.run_pure]
 ·rw [Oper.semAt_plain F _ _ (by rw [b];intro c d;cases d)];simp [execOp,b,resolve,invoke,builtin,hs,hx,hrun,Result.andThen];exact hK
theorem q0i {n:Nat}{P:Program}{w:World}{ops:Array Oper}{rest:List Oper}{o:Oper}{a:Act}{Q:Exit->Act->World->Prop}
  (b:Region.wanted o (yielded ops a.tmps)=false) (h:wpListIn Fence.wide n P ops Q rest (a.put o.dst undef) w):wpListIn Fence.wide n P ops Q (o::rest) a w:=by
 unfold wpListIn;rw [zF (by rw [b];simp)];exact⟨fun _ _=>wH,h⟩
structure PlacesAt (s:qe4)(n:Nat)(cols key:List Int)(lo hi:Int)(pl:List Nat)(v:Value):Prop where
 told:qet n s.ts cols key lo hi=pl.filter (qe8 lo hi)
 sort:pl.Pairwise (· < ·)
 few:pl.length<=s.ts.length
 good: ∀(j i:Nat),pl[j]?=some i->qd8 n cols=true/\i<s.ts.length/\(idx s.ts cols (qbc key))[j]?=some i/\ ∃b c p,v=.slice (some ⟨b,0,none⟩) pl.length c/\s.tag b=some (.ent (qav cols) (qbc key) p)/\pl.length<=p
theorem PlacesAt.read {B n P KM:Nat}{R s:qe4}{w:World}{d key:List Int}{lo hi:Int}{U:List Nat}{v:Value}{m:Nat}(h:PlacesAt R n d key lo hi U v)(hb:RelBd R m s)(hinv:RelInv B n P KM s w){j i:Nat}(hj:U[j]?=some i):
  ∃b c t,v=.slice (some ⟨b,0,none⟩) U.length c/\w.cell? ⟨b,j,none⟩=some (.int .i64 (i:Int))/\R.ts[i]?=some t/\s.ts[i]?=some t:=by
 obtain⟨u,r,x,b,c,p,hv,y,hp⟩:=h.good j i hj;obtain⟨us,z⟩:=hb.more;have ai:=(zA.1 hj).1;obtain⟨t,Y⟩: ∃t,R.ts[i]?=some t:=⟨_,zB r⟩;refine⟨b,c,t,hv,?_,Y,by rw [z,yS r];exact Y⟩;have g: ∃q,s.tag b=some (.ent (qav d) (qbc key) q)/\p<=q:=by
  rcases hb.le b _ y with l |⟨c1,k1,p1,q1,e1,l,X⟩
  ·exact⟨p,l,zG _⟩
  ·cases e1;exact⟨q1,l,X⟩
 obtain⟨q,hq,aj⟩:=g;obtain⟨L,hL⟩:=hinv.own.ents b (qav d) (by rw [hq];rfl);obtain⟨l',vl,M,mm,e⟩:=hinv.own.looks _ _ hL;have hl:l'=d:=qs0 e.row u hinv.own.n16 e.mask;subst hl;obtain⟨i',l,X⟩:=e.blocks b _ q hq j wC;have h3:=q5y R.ts us l' (qbc key) x;rw [z,h3]at l;cases l;exact X
theorem qti (B n P KM n0 n1 bR bL bK bT bF:Nat)(vl vk:Value)(lo hi:Int)(p key:List Int)(co:okT key)(cA:p.length<=1073741824)(ci:key.length<=1073741824):
  qoe prog 152 #[.pointer (some ⟨bR,0,none⟩),.pointer (some ⟨bL,0,none⟩),.pointer (some ⟨bK,0,none⟩),.pointer (some ⟨bT,0,none⟩),.pointer (some ⟨bF,0,none⟩)] (qfi B n P KM) (fun s=>(qet n s.ts p key lo hi).length)
  (fun s0 k s m X args=> ∃i t,(qet n s0.ts p key lo hi)[k]?=some i/\s0.ts[i]?=some t/\q9e i t m X args) (MatchV n0 n1 bR bL bK bT bF B vl vk lo hi p key) (fun b=>n0<=b/\b<n1):=by
 intro l J Jx W s0 hl hinv hV hU hJ bj ah h0;refine qbr Tryz.func152 rfl ?_;simp only [Tryz.ntmps152,size_toArray,length_cons,length_nil,Nat.reduceAdd,Nat.reduceSub,Array.replicate_succ,Array.replicate_zero,push_toArray,append_toArray,nil_append,cons_append];have cR:=hV.r.cell;have cL:=hV.l.cell;have cK:=hV.k.cell;have lR:=hV.r.lt;have lL:=hV.l.lt;have lK:=hV.k.lt;have bJ:qq3 s0.tag vk:=fun a n' c' e=>hU _ ⟨(zE hV.ok _ (by rw [e];rfl)).1,hV.bk _ (by rw [e];rfl)⟩;have aQ:=hinv.few;have bH:=q3g hinv.own wC W.heap.size vl vk p key (qen hV.ol cA) (qen hV.ok ci) (zG _) co bJ;clear bJ;obtain⟨a1,c1,rfl⟩:=qj hV.ol;obtain⟨a2,c2,rfl⟩:=qj hV.ok;refine hd8 ?_ hinv hV hU hJ bj ah h0 bH;clear hinv hV hU hJ bj ah h0 bH;intro ch cz ca ck cC ay cw bD;gi_wp2;refine⟨wH,rfl,(zU.2 bD.o).mono ?_⟩;rintro e W1 ⟨v,bQ,cj,rfl,k1,aP,aT,aB,ap,hF,aX⟩;obtain⟨s1,au⟩: ∃s1:qe4,s1=⟨bQ,s0.ts,s0.vD,cj⟩:=⟨_,rfl⟩;have z:RelInv B n P KM s1 W1:=by rw [au];exact⟨aP,aQ⟩
 have ar:qtu B n P KM s0 W s1 W1:=by rw [au] at z⊢;exact⟨k1,rfl,aT,aB,ap,z⟩
 have bl:J 0 s1 W1:=ck.o 0 s0 W s1 W1 cw.o ar;have bP:=cz.o.keep k1 (fun b h1 h2=>ca.o b ⟨h1,h2⟩);have R:s1.ts=s0.ts:=by rw [au]
 have b9:=k1.size;obtain⟨U,av,cv,hv,aJ⟩: ∃(U:List Nat) (av:Option Addr) (cv:Nat),v=.slice av U.length cv/\PlacesAt s1 n p key lo hi U v:=by
  cases hg:(qd8 n p&&decide (key.length=p.length)) with
  |false=>
   refine⟨[],none,0,aX hg,⟨by rw [q3j hg];rfl,List.Pairwise.nil,yc _,fun j i hj=>by simp at hj⟩⟩
  |true=>
   simp only [zV,zT]at hg;obtain⟨⟨ho,hb⟩,L,hL⟩:=hF hg.1 hg.2;obtain⟨av,cv,rfl⟩:=qj ho;refine⟨idx s0.ts p (qbc key),av,cv,rfl,⟨?_,q0h _ _ _,by rw [R];exact qyn _ _ _,fun j i hj=>⟨hg.1,by rw [R];exact q82 hj,by rw [R];exact hj,?_⟩⟩⟩
   ·rw [R];exact q3i aP.n16 aP.len hg.1 hg.2
   ·rcases ho.2 with ⟨e1,e2⟩ |⟨g,cap,cur,e1,e2,e3,e4,e5,_⟩
    ·have:=(zA.1 hj).1;omega
    ·injection e1 with q1 q2 q3
     subst q1;exact⟨g,cv,_,rfl,by rw [au];exact hb g rfl,zG _⟩
 subst hv;have bS:(qet n s0.ts p key lo hi).length=(U.filter (qe8 lo hi)).length:=by rw [←R,aJ.told]
 have cB:U.length<=67108864:=zW aJ.few z.few;clear au aP aT aB ap hF aX k1 cR cL cK lR lL lK aQ;refine hd7 ?_ z ar bl bP R aJ bS;clear z ar bl bP R aJ bS;intro aH cy bn br ao ax aq;gi_wp2;gi_loopw [20] (fun i wr=> ∃(j:Nat) (s:qe4),i=.int .i64 (j:Int)/\j<=U.length/\J (qe7 lo hi U j) s wr/\RelInv B n P KM s wr/\MatchV n0 n1 bR bL bK bT bF B (.slice a1 p.length c1) (.slice a2 key.length c2) lo hi p key wr/\RelBd s1 W.heap.size s/\W.heap.size<=wr.heap.size) (fun i _=>U.length-(intOf i).toNat)
 case atStart=>exact⟨0,s1,rfl,yc _,by unfold qe7;exact bn.o,aH.o,br.o,RelBd.refl _ _,b9⟩
 case round=>
  obtain⟨j,s,rfl,hj,ab,c,q,aa,ba⟩:=hrel;by_cases cx:j<U.length
  ·obtain⟨i,ag⟩: ∃i,U[j]?=some i:=⟨_,zB cx⟩;obtain⟨b,cb,t,cp,a8,aN,al⟩:=ax.o.read aa c ag;injection cp with hav hnn hcc
   clear hnn hcc;subst hav;have df:b<wr.heap.size:=zQ _ _ a8;have cH:(j:Int)<U.length:=wC
   have bN:(0:Int)<=j:=wC
   have dh:(j:Int)+1<=67108864:=wC
   have cT:=q.t.cell;have lT:=q.t.lt;by_cases cq:hi<=(i:Int)
   ·have aR:=q50 (lo:=lo) (ax.o.sort) ag cq;have aF:J (U.filter (qe8 lo hi)).length s wr:=by rw [←aR];exact ab
    clear aR ab aN al ag;refine hd4 ?_ aF c q aa;clear aF c q aa;intro az d y ad;gi_wp2;refine yA (yw rfl _ _ _) rfl ?_;exact⟨⟨_,rfl⟩,ba,s,d.o,y.o,.inl (by rw [aq.o];exact az.o)⟩
   ·have cF:=q.f.cell;have lF:=q.f.lt;by_cases a6:lo<=(i:Int)
    ·have bc:=q5z ag (lo:=lo) (hi:=hi) (by unfold qe8;rw [zS a6,zS wC];rfl);obtain⟨aD,an⟩:=bc;have bo:qe7 lo hi U j<(qet n s0.ts p key lo hi).length:=by rw [aq.o];exact(zA.1 aD).1
     have am:(qet n s0.ts p key lo hi)[qe7 lo hi U j]?=some i:=by rw [←ao.o,ax.o.told];exact aD
     have aW:s0.ts[i]?=some t:=by rw [←ao.o];exact aN
     have cm:=c.few;have cP:i<s.ts.length:=(zA.1 al).1;have dd:(i:Int)<=67108864:=wC
     have da:(0:Int)<=i:=wC
     have cS:=qe c.own.box;obtain⟨W2,bW⟩:=ex (wr.alloc (.cells #[] 3));have k1:wG wr W2:=by rw [←bW];exact kAl
     have b0:W2.ownsRow wr.heap.size 3 1 (.slice (some ⟨wr.heap.size,0,none⟩) 0 0) 0 []:=by rw [←bW];exact xg wr #[] 0 (zG _) (by simp [maxLen]) rfl
     have af:=c.keep k1.mt;have cn:=(q.keep k1 (fun _ _ _=>wH)).r.cell;have c8:bR<W2.heap.size:=zQ _ _ cn;have aY:=qsy af.own wC i t al;clear ag aN al aD;refine qhv ?_ ab c q aa k1 b0 af aY bo am aW an;clear ab c q aa k1 b0 af aY bo am aW an;intro bx d y ad bp bs b4 bb aS aL a4 aI;gi_wp2;refine⟨wH,rfl,(zU.2 bb.o).mono ?_⟩;rintro e W3 ⟨vt,rfl,k3,z3,bt,cd⟩;have bq:=qf bs.o k3 (fun _ _=>wH);have aw:=qeg bt (m:=W2.heap.size) k3.mt (zG _);obtain⟨bw,bm,rfl,bv,cI,bi⟩:=id aw;have aE:=qgo (sz:=1) ic (fun _=>rfl) wC (E:=qgc) (fun b o x h j u hj=>by
      have bN:j=0:=by have:=(zA.1 hj).1;simp [ic] at this;exact this
      subst bN;simp [ic]at hj;subst hj;exact h) aw rfl
     have bO:wr.heap.size<=W3.heap.size:=by have:=bp.o.size;omega
     obtain⟨va,W4,bV,aO,cu,bI⟩:=qhz (P:=prog) qnm 86 bq bw t.length bm (t.flatMap ic) (qa4 _ 1 (fun _=>rfl) _) aE.1 aE.2 (qj9 _ (by simp [ic,Value.oneCell']) _) wC bO;rw [qnl,nil_append,zD]at aO;have ak:wG wr W4:=(bp.o.mt.trans (k3.mt.trans (bI.mono (C':=fun b=>b<wr.heap.size) fun b _ h e=>by have:=(zE aO b e).1;omega))).mono (fun b hb _=>hb);have ae:=d.o.keep ak.mt;have a9:=y.o.keep ak (fun _ _ _=>wH);obtain⟨fn,tmps,assign,body,hy,hR⟩:=ay.o (qe7 lo hi U j) s wr W4 #[.int .i64 (i:Int),va] aS.o bx.o (q0g d.o ak) ae a9 ba ⟨i,t,aL.o,a4.o,va,rfl,aO,bv⟩;have bd:=zg hR;clear hR bt aw bi aE bq cu bI cd aO;have c4:=zg k3;have b1:=zg ae;have cM:=zg a9;have cg:W.heap.size<=W4.heap.size:=by have:=ak.size;omega
     have cE:=zg ak;clear k3 ae a9 ak;refine hd1 ?_ bV;clear bV;intro bz
     gi_wp2_with (gi_at_builtin;refine q70 (v:=.slice (some ⟨wr.heap.size,0,none⟩) 0 0) (u:=.slice bw t.length bm) (v':=va) (w':=W4) (by rfl) (.tmp 33) (.tmp 36) 86 rfl rfl rfl bz.o ?_)
     refine⟨rfl,bd.out.mono ?_⟩;rintro e Y ⟨s',aC,bM,aV,cU,(⟨rfl,a7⟩ |⟨rfl,a7⟩)⟩
     all_goals
      have a3:RelBd s1 W.heap.size s':=ad.o.trans aV cg;clear aV bd hy;refine hd4 ?_ aC bM a7 a3;clear aC bM a7 a3;intro ai aZ a0 a5;gi_wp2
     ·go_roundw
      case rel=>exact⟨j+1,s',by go_num,wC,by rw [aI.o];exact a0.o,ai.o,aZ.o,a5.o,wC⟩
      case measure=>simp [intOf];omega
     ·refine yA (yw rfl _ _ _) rfl ?_;exact⟨⟨_,rfl⟩,wC,s',ai.o,aZ.o,.inr ⟨_,aS.o,a0.o⟩⟩
    ·have bu:=q7z ag (lo:=lo) (hi:=hi) (by unfold qe8;rw [zM a6];rfl);have bf:J (qe7 lo hi U (j+1)) s wr:=by rw [bu];exact ab
     have dg: ¬((i:Int)≥lo):=a6;clear bu ab ag aN al;refine hd4 ?_ bf c q aa;clear bf c q aa;intro bG d y ad;gi_wp2;refine⟨wH,?_⟩;rename_i aK;refine aK _ _ ?_;clear aK
     try go_frame
     refine q0i (by rfl) ?_
     try go_frame
     refine q0i (by rfl) ?_
     try go_frame
     refine q0i (by rfl) ?_
     try go_frame
     gi_wp2;go_roundw
     case rel=>exact⟨j+1,s,by go_num,wC,bG.o,d.o,y.o,ad.o,wC⟩
     case measure=>simp [intOf];omega
  ·have bU:j=U.length:=by omega
   have aF:J (U.filter (qe8 lo hi)).length s wr:=by rw [←q51 lo hi U,←bU];exact ab
   clear ab bU;refine hd4 ?_ aF c q aa;clear aF c q aa;intro az d y ad;gi_wp2
   go_end0
   exact⟨⟨_,rfl⟩,ba,s,d.o,y.o,.inl (by rw [aq.o];exact az.o)⟩
structure RelSame (s0:qe4)(w:World)(s:qe4)(X:World):Prop where
 keep:Keep (fun b=>s0.tag b=none/\b<w.heap.size) w X
 same:s.ts=s0.ts
 le:TagLe s0.tag s.tag
 new:TagNew s0.tag s.tag w
 sub: ∀p,p∈s0.lm->p∈s.lm
theorem RelSame.refl (s:qe4)(w:World):RelSame s w s w:=⟨Keep.refl _ _,rfl,TagLe.refl _,TagNew.refl _ _,fun _ h=>h⟩
theorem RelSame.it {B n P K:Nat}{c s e:qe4}{w X Y:World}(h:RelSame c w s X)(g:qtu B n P K s X e Y):RelSame c w e Y:=by
 have q: ∀b,c.tag b=none->b<w.heap.size->s.tag b=none:=fun b m r=>by
  cases hT:s.tag b with
  |none=>rfl
  |some T=>
   rcases h.new b T hT with ⟨T',h3⟩ |h3
   ·rw [m]at h3;cases h3
   ·omega
 exact⟨h.keep.trans (g.keep.mono fun b _ d=>q b d.1 d.2),g.same.trans h.same,h.le.trans g.le,h.new.trans g.new h.keep.size,fun p l=>g.sub p (h.sub p l)⟩
theorem RelSame.keepOn {c s:qe4}{w X Y:World}{C:Nat->Prop}(h:RelSame c w s X)(hK:Keep C X Y)(e: ∀b,b<w.heap.size->c.tag b=none->C b):RelSame c w s Y:=
 ⟨h.keep.trans (hK.mono fun b _ d=>e b d.2 d.1),h.same,h.le,h.new,h.sub⟩
theorem RelSame.trans {c s e:qe4}{w X Y:World}(h:RelSame c w s X)(g:RelSame s X e Y):RelSame c w e Y:=by
 have q: ∀b,c.tag b=none->b<w.heap.size->s.tag b=none:=fun b r t=>by
  cases hT:s.tag b with
  |none=>rfl
  |some T=>
   rcases h.new b T hT with ⟨T',h3⟩ |h3
   ·rw [r]at h3;cases h3
   ·omega
 exact⟨h.keep.trans (g.keep.mono fun b m d=>⟨q b d.1 d.2,m⟩),g.same.trans h.same,h.le.trans g.le,h.new.trans g.new h.keep.size,fun p l=>g.sub p (h.sub p l)⟩
theorem qxk {n:Nat}{ts:List (List Int)}{t:List Int}(h: ∀t∈ts,qdp n t=true)(b:qdp n t=false):qfe ts t=none:=by
 unfold qfe;refine yp.2 fun i _ hi=>?_;have:=h t (zH (yE hi));rw [b]at this;cases this
theorem qvm {tag:qcg}{w:World}{B n:Nat}{ts:List (List Int)}{vD:Value}{P K:Nat}{lm:List (List Bool×Nat)}(h:qcl tag w B n ts vD P K lm)(m:Nat)(v:Value)(t:List Int)(hs:qat m w v t)(hm:m<=w.heap.size)(az:okT t):
  Calls prog 107 #[.pointer (some ⟨B,0,none⟩),v] w fun e w'=>e=.returned (qle (qfe ts t))/\Keep (fun k=>k<w.heap.size) w w':=by
 obtain⟨a,c,rfl,au,aI,ag⟩:=id hs;have hB:=qe h.box;have aG:=h.n16;refine hd4 ?_ h hs ag az;clear h hs ag az;intro Xh ao aE ay
 go_enter Tryz.func107,Tryz.ntmps107
 go_wp2_with fail;refine(ql6 Xh.o.box).mono ?_;rintro e w1 ⟨rfl,ab⟩;have ab:=ab.symm;subst ab;go_wp2_with fail;refine(qso Xh.o.box m _ t ao.o hm).mono ?_;rintro e W1 ⟨rfl,d⟩;cases p:qdp n t with
 |false=>
  have z:qfe ts t=none:=qxk Xh.o.right p;clear p;refine hd2 ?_ d z;clear d z;intro s X;go_wp2_with fail
  go_ret2
  exact⟨by rw [X.o];rfl,s.o.mt⟩
 |true=>
  have ai:=qmh p;obtain⟨Wd,y⟩:=ex (W1.drew)
  replace d:wG w Wd:=by rw [←y];exact d.trans kDr
  have ad:=qeg ao.o (m:=m) d.mt (zG _);have ae:t.length<=16:=wC
  have R:(qbc t).length=16:=qh4 wC;have U: ∃q,keyOf prog 176 (qhl (qbc t))=some q:=qq1 R (qok ay.o);have z1:=d.size;have x:=qb (Xh.o.keep d (fun _ _ _ _=>wH)).box 3 _ rfl;simp only [zD]at x;have am:B<Wd.heap.size:=wC
  clear R;have al:=qny m _ t Wd ad wC ae;refine hd6 ?_ d ad U p ai al;clear d ad U p ai al;intro s aC aa aF an aj;have l:=zg x;clear x;have x:W1.cell? ⟨B,3,none⟩=some (.map (some P)):=by rw [←y] at l;exact l.o
  have aH:B<W1.heap.size:=by rw [←y] at am;exact am
  subst y;go_wp2_with fail;refine qa5 rfl (fun W=>W.cell? ⟨B,3,none⟩=some (.map (some P))) [11] ?_;clear x;refine qy [0,1,2,3,4] ?_
  iterate 5
   refine tkN (v:=?_) rfl l.o ?_ ?_;rotate_left
   ·rintro Wq x0;go_simp
    try with_reducible rfl
   try simp only [qz]
  refine qm ?_;refine ho 5 rfl fun K ar=>?_;go_wp2_with fail;refine aj.o.mono ?_;rintro e W2 ⟨rfl,r⟩
  replace r:Keep (fun b=>b<w.heap.size) w W2:=s.o.mt.trans (r.mono fun b _ h=>wC)
  have hd:=Xh.o.keep r (fun b T hb au=>au);have Y:=qef (P:=prog) Tryz.underlying168 qlk.law qkd qvi hd.pmap (qbc t) aa.o true;have u:((qek ts).map (·.1)).Nodup:=by
   obtain⟨_,_,_,_,u,_⟩:=hd.pmap;exact u
  rw [qq2 hd.len an.o u]at Y;have x:=qb hd.box 3 _ rfl;simp only [zD]at x;have g:=zg x;have aJ:B<W2.heap.size:=qe hd.box;clear u hd x;refine hd1 ?_ r;clear r;intro ax;cases af:qfe ts t
  all_goals
   rw [af]at Y;simp only [yj]at Y;refine hd1 ?_ af;clear af;intro aw;go_wp2_with fail;refine ar.o _ _ (fun _=>g.o) ?_;refine ho 6 rfl fun K ap=>?_;go_wp2_with fail;refine ap.o _ _ (fun _=>g.o) ?_;refine ho 7 rfl fun K aq=>?_;go_wp2_with fail;refine aq.o _ _ (fun _=>g.o) ?_;refine qy [8,9] ?_
   iterate 2
    refine tkN (v:=?_) rfl g.o ?_ ?_;rotate_left
    ·rintro Wq x0;go_simp
     try with_reducible rfl
    try simp only [qz]
   refine qm ?_;refine ho 10 rfl fun K av=>?_;go_wp2_with fail;refine av.o _ _ (fun _=>g.o) ?_;refine ho 11 rfl fun K ak=>?_;go_wp2_with fail;refine ak.o _ _ (fun h=>by simp at h) ?_;refine qbh wD ?_;go_wp2_with fail
   go_ret2
   exact⟨by rw [aw.o];rfl,ax.o⟩
end Go.Proofs.R4
namespace Go.Proofs.P16
open Go.RowKit Go.Ink
attribute [local go_sem] Oper.semAt_some
def qfs (c:Int):Bool:=decide (48<=c)&&decide (c<=57)
def qcy (c:Int):Bool:=decide (97<=c)&&decide (c<=122)
def qct (c:Int):Bool:=decide (65<=c)&&decide (c<=90)
def qa7 (c:Int):Bool:=qcy c ||qct c ||qfs c ||decide (c=95)
theorem qxl (c:Int)(w:World):Calls prog 124 #[.int .u8 c] w fun e w'=>e=.returned (.bool (qa7 c))/\w'=w:=by
 go_enter Tryz.func124,Tryz.ntmps124
 go_wp2
 all_goals go_ret
 all_goals (refine⟨yO (fun b=>Ending.returned (Value.bool b)) ?_,rfl⟩;rw [yx];simp only [qa7,qcy,qct,qfs,ya,zV,zT,xE];(try simp only [true_iff,false_iff,iff_true,iff_false,zz]);omega)
def qcv (s:ByteArray):List Int:=s.data.toList.map fun c=>(c.toNat:Int)
theorem qjd (s:ByteArray):(qcv s).length=s.size:=by rw [qcv,zL,Array.length_toList];rfl
theorem qgg (s:ByteArray){k:Nat}(h:k<s.size):(qcv s)[k]?=some ((s[k].toNat:Nat):Int):=by
 have b:k<s.data.toList.length:=by rw [Array.length_toList];exact h
 simp only [qcv,zP,zB b,Option.map_some]
 rfl
theorem qh5 {α:Type}(p:α->Bool)(l:List α){k:Nat}{c:α}(h:l[k]?=some c):(l.take (k+1)).all p=((l.take k).all p&&p c):=by
 rw [zh,h,all_append];simp
theorem qjy {α:Type}(p:α->Bool)(l:List α){k:Nat}{c:α}(h:l[k]?=some c)(b:p c=false):l.all p=false:=by
 cases d:l.all p with
 |false=>rfl
 |true=>rw [yM.1 d c (zH h)] at b;cases b
def qb0 (s:ByteArray):Bool:=(qcv s).all qa7&&(decide (1<=s.size)&&decide (s.size<=64))
end Go.Proofs.P16
