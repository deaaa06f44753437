/- Parts of the proof. -/
import Derived.Test.YtnponcjnahicnaaGreatProg
import Derived.Test.YtnponcjnahicnaaGreatRfCToRfG
import Derived.Test.YtnponcjnahicnaaGreatHdToKp
set_option linter.unusedSimpArgs false
set_option linter.unusedVariables false
open Go.Proofs.Tryz(prog)
open List(drop_eq_getElem_cons drop_eq_nil_of_le drop_length ext_getElem? flatMap_append flatten_append getElem?_eq_getElem getElem?_map getElem?_mapIdx length_append length_map length_mapIdx map_append mem_append mem_flatMap mem_iff_getElem? mem_of_getElem? take_add_one take_append_drop take_length)
namespace Go.Proofs
open Go.RowKit Go.Ink Go.Flt R4 P16
attribute [local go_sem] Oper.semAt_some
theorem qme {fs:List ql}{k:Nat}{f:ql}(h:fs[k]?=some f)(l:List ByteArray):qci (fs.drop k) l=if l.length<=400 then qci (fs.drop (k+1)) (qpj l f) else l:=by
 obtain⟨h1,e1⟩:=List.getElem?_eq_some_iff.1 h;rw [drop_eq_getElem_cons h1,e1];rfl
set_option maxRecDepth 100000 in
set_option maxHeartbeats 2000000 in
theorem q4i {n:Nat}{r:RuleD}{sh sb v:Value}{fs:List ql}{w:World}(hr:RuleIn n w sh sb r)(hf:FactsIn n w v fs)(hn:n<=w.heap.size)(hN1:r.stands.length<=1073741824)(htl: ∀f,f∈fs->f.tuple.length<=1073741424):
  Calls prog 7 #[qbf r sh sb,v] w fun e w'=>e=.returned (.bool (qgh r fs))/\Keep (fun b=>b<w.heap.size) w w':=by
 obtain⟨N,hN⟩:=ex (w.heap.size);obtain⟨W0,hW0⟩:=ex (w.alloc (.cells #[.string r.head.pred,sh,sb] 27));have k0:Keep (fun _=>True) w W0:=by rw [←hW0];exact kAl
 have p0:W0.heap[N]?=some (.cells #[.string r.head.pred,sh,sb] 27 (0,0)):=by rw [←hW0,←hN];exact qh _ _
 have z0:W0.heap.size=N+1:=by rw [←hW0,←hN];simp
 have hr0:=hr.keep (k0.mono fun _ _ _=>trivial);obtain⟨af,cf,rfl,hlf,hcf,hef⟩:=id hf;have hchv:=fun(many:Nat) (X:World) (hX:RuleIn n X sh sb r) (hnX:n<=X.heap.size) (hm:many<=1000000)=>qwd (w:=X) (many:=many) hX hnX hN1 hm;unfold qbf at hchv⊢;obtain⟨⟨ah,capH,rfl,hlenh,hcaph,helh⟩,⟨ab,capB,rfl,hlenb,hcapb,helb⟩⟩:=id hr;by_cases hbig:400<fs.length
 ·have hv:qgh r fs=true:=by unfold qgh;rw [if_pos hbig]
  have hbig1:(400:Int)<fs.length:=by omega
  refine qoh ?_ hr hf hN hW0 k0 p0 hr0 hef htl hchv helh helb hv;clear hr hf hN hW0 k0 p0 hr0 hef htl hchv helh helb hv;intro Xhr Xhf XhN XhW0 Xk0 Xp0 Xhr0 Xhef Xhtl Xhchv Xhelh Xhelb Xhv
  go_enter Tryz.func7,Tryz.ntmps7
  go_wp2_with fail;go_ret;exact⟨by rw [Xhv.o];try rfl,kAl⟩
 ·have hv:qgh r fs=(decide (400<(qci fs []).length) ||qel r (qci fs []).length):=by unfold qgh;rw [if_neg hbig]
  have hbig1:(fs.length:Int)<=400:=by omega
  refine qoh ?_ hr hf hN hW0 k0 p0 hr0 hef htl hchv helh helb hv;clear hr hf hN hW0 k0 p0 hr0 hef htl hchv helh helb hv;intro Xhr Xhf XhN XhW0 Xk0 Xp0 Xhr0 Xhef Xhtl Xhchv Xhelh Xhelb Xhv
  go_enter Tryz.func7,Tryz.ntmps7
  go_wp2_with fail;rw [XhW0.o,XhN.o]
  go_loopw [5,6] (fun v5 ix wr=> ∃(k:Nat) (l:List ByteArray),k<=fs.length/\ix=.int .i64 (k:Int)/\Keep (fun b=>b<N+1) W0 wr/\wr.ownsRow (N+1) 9 1 v5 l.length (l.map .string)/\l.length<=1073741824/\qci fs []=qci (fs.drop k) l) (fun _ i _=>fs.length-(intOf i).toNat)
  case atStart=>exact⟨0,[],by omega,rfl,Keep.refl _ _,World.ownsRow_nil _ _ _ _,by simp,rfl⟩
  case round=>
   obtain⟨k,l,hk,rfl,hK,hO,hll,hat⟩:=hrel;have hbx:=hK.heap Xp0.o (by omega);have d0:=qb hbx 0 _ rfl;have d1:=qb hbx 1 _ rfl;have d2:=qb hbx 2 _ rfl;have hbl:=qe hbx;simp only [Nat.zero_add]at d0 d1 d2;have hszk:=hK.size;have hk0:(0:Int)<=k:=by omega
   obtain⟨al,cl,rfl⟩:=qi hO;have kw:Keep (fun b=>b<N) w wr:=(Xk0.o.mono fun _ _ _=>trivial).trans (hK.mono fun b _ h=>by omega);have hEnd:(k=fs.length∨400<l.length)->qci fs []=l:=fun h=>by
    rcases h with rfl |h
    ·rw [hat,drop_length];rfl
    ·rw [hat];by_cases hk2:k<fs.length
     ·obtain⟨f,hfk⟩: ∃f,fs[k]?=some f:=⟨_,getElem?_eq_getElem hk2⟩;rw [qme hfk,if_neg (by omega)]
     ·rw [drop_eq_nil_of_le (by omega)];rfl
   by_cases hmany:400<l.length
   ·have hfin:qgh r fs=true:=by rw [Xhv.o,hEnd (.inr hmany),decide_eq_true hmany];rfl
    have hm1:(400:Int)<l.length:=by omega
    by_cases hlt:k<fs.length
    ·have hlt1:(k:Int)<fs.length:=by omega
     clear hEnd hat;refine hd5 ?_ hfin hK hO kw hbx;clear hfin hK hO kw hbx;intro Xhfin XhK XhO Xkw Xhbx;go_wp2_with fail;go_ret;exact⟨by rw [Xhfin.o];try rfl,by rw [XhN.o];exact Xkw.o⟩
    ·obtain rfl:k=fs.length:=by omega
     clear hEnd hat hlt;refine hd5 ?_ hfin hK hO kw hbx;clear hfin hK hO kw hbx;intro Xhfin XhK XhO Xkw Xhbx;go_wp2_with fail;go_ret;exact⟨by rw [Xhfin.o];try rfl,by rw [XhN.o];exact Xkw.o⟩
   ·have hm1:(l.length:Int)<=400:=by omega
    by_cases hlt:k<fs.length
    ·have hlt1:(k:Int)<fs.length:=by omega
     obtain⟨f,hfk⟩: ∃f,fs[k]?=some f:=⟨_,getElem?_eq_getElem hlt⟩;obtain⟨b,o,rfl,hb,sv,hcl,hsv⟩:=Xhef.o k f hfk;have kn:Keep (fun b=>b<n) w wr:=kw.mono fun b _ h=>by have:=XhN.o;omega
     have f0:=kn.cell (hcl 0 _ rfl) hb;have f1:=kn.cell (hcl 1 _ rfl) hb;simp only [Nat.add_zero]at f0;have hbw:b<wr.heap.size:=by have:=XhN.o;omega
     have htu:=Xhtl.o f (mem_of_getElem? hfk);have hcall:=quq (n:=n) f.pred hO (qbr hsv kn) (by have:=XhN.o;omega) (by omega) (by omega);have hlen2:=qe9 f.tuple l;rw [qme hfk,if_pos (by omega)]at hat;obtain⟨l2,hl2⟩:=ex (f.tuple.foldl qq l);unfold qpj at hat;rw [hl2]at hat hcall hlen2;obtain⟨sa,sc,rfl,hsl,-,-⟩:=id hsv;clear hcl hsv hfk kn hEnd hl2;refine hd6 ?_ hat hK hO kw hbx hcall;clear hat hK hO kw hbx hcall;intro Xhat XhK XhO Xkw Xhbx Xhcall;go_wp2_with fail;refine Xhcall.o.mono ?_;rintro e W2 ⟨v',rfl,k2,o2⟩;have hK2:=XhK.o.trans k2;obtain⟨a2,c2,rfl⟩:=qi o2;have hl2b:l2.length<=1073741824:=by omega
     clear k2;refine hd2 ?_ hK2 o2;clear hK2 o2;intro XhK2 Xo2;go_wp2_with fail;go_roundw
     case rel=>exact⟨k+1,l2,by omega,by go_num,XhK2.o,Xo2.o,hl2b,Xhat.o⟩
     case measure=>simp [intOf];omega
    ·obtain rfl:k=fs.length:=by omega
     have hfin:qgh r fs=qel r l.length:=by rw [Xhv.o,hEnd (.inl rfl),decide_eq_false hmany];rfl
     have hcall:=Xhchv.o l.length wr (Xhr.o.keep (kw.mono fun b _ h=>by have:=XhN.o;omega)) (by have:=XhN.o;omega) (by omega);obtain⟨c,hc⟩:=ex (qel r l.length);rw [hc]at hfin hcall;clear hEnd hat hlt;refine hd6 ?_ hfin hK hO kw hbx hcall;clear hfin hK hO kw hbx hcall;intro Xhfin XhK XhO Xkw Xhbx Xhcall;go_wp2_with fail;refine Xhcall.o.mono ?_;rintro e W2 ⟨rfl,k2⟩;have hE:=Xkw.o.trans (k2.mono fun b _ h=>by omega);clear k2;refine hd1 ?_ hE;clear hE;intro XhE;go_wp2_with fail;go_ret;have hm2:decide ((400:Int)<l.length)=false:=by simp;omega
     refine⟨?_,by rw [XhN.o];exact XhE.o⟩;rw [Xhfin.o];show Ending.returned (Value.bool (decide ((400:Int)<l.length) ||c))=_;rw [hm2]
     rfl
def qdj (p:ql×Value):List Value:= [.string p.1.pred,p.2]
theorem q4j:qce prog 28 52 2 40:=qcx (z:=.agg #[.string ⟨#[]⟩,.slice none 0 0]) (by kernel_rfl) (by kernel_rfl) rfl (by decide) (by decide)
abbrev qp7 (n:Nat)(w:World)(v:Value)(ps:List (ql×Value)):Prop:=SliceIn n w 2 (fun w b o p=>CellsE w b o (qdj p)) v ps
theorem qwe {n:Nat}{w:World}{v:Value}{fs:List ql}(h:FactsIn n w v fs): ∃ps:List (ql×Value),ps.map (·.1)=fs/\qp7 n w v ps/\ ∀p,p∈ps->qae n w p.2 p.1.tuple:=by
 obtain⟨a,c,hv,hl,hc,he⟩:=h;have hsv: ∀k,∃sv,∀f,fs[k]?=some f-> ∃b o,a=some ⟨b,o,none⟩/\b<n/\CellsE w b (o+k*2) [.string f.pred,sv]/\qae n w sv f.tuple:=fun k=>by
  cases hk:fs[k]? with
  |none=>exact⟨.nilFunc,fun f h=>by cases h⟩
  |some f=>
   obtain⟨b,o,e,hb,sv,h1,h2⟩:=he k f hk;exact⟨sv,fun f' h=>by cases h;exact⟨b,o,e,hb,h1,h2⟩⟩
 obtain⟨g,hg⟩: ∃g:Nat->Value,∀k f,fs[k]?=some f-> ∃b o,a=some ⟨b,o,none⟩/\b<n/\CellsE w b (o+k*2) [.string f.pred,g k]/\qae n w (g k) f.tuple:=⟨fun k=>Classical.choose (hsv k),fun k=>Classical.choose_spec (hsv k)⟩;have hat: ∀(k:Nat) (p:ql×Value),(fs.mapIdx fun k f=>(f,g k))[k]?=some p->fs[k]?=some p.1/\p.2=g k:=fun k p h=>by
  rw [getElem?_mapIdx]at h;obtain⟨f,hf,he⟩:=Option.map_eq_some_iff.1 h;subst he;exact⟨hf,rfl⟩
 refine⟨fs.mapIdx fun k f=>(f,g k),?_,⟨a,c,by rw [length_mapIdx];exact hv,by rw [length_mapIdx];exact hl,by rw [length_mapIdx];exact hc,fun k p hp=>?_⟩,fun p hp=>?_⟩
 ·refine ext_getElem? fun k=>?_;rw [getElem?_map,getElem?_mapIdx];cases fs[k]?<;>rfl
 ·obtain⟨h1,h2⟩:=hat k p hp;obtain⟨b,o,e,hb,h3,h4⟩:=hg k _ h1;exact⟨b,o,e,hb,by rw [←h2] at h3;exact h3⟩
 ·obtain⟨k,hk⟩:=mem_iff_getElem?.1 hp;obtain⟨h1,h2⟩:=hat k p hk;obtain⟨b,o,e,hb,h3,h4⟩:=hg k _ h1;rw [h2];exact h4
theorem qp8 {m:Nat}{w:World}{a:Option Addr}{c:Nat}{ps:List (ql×Value)}(h:qp7 m w (.slice a ps.length c) ps):(∀b,a=some b-> ∀j u,(ps.flatMap qdj)[j]?=some u->w.cell? (b.add j)=some u)/\(a=none->ps.length=0):=
 q1y (E:=fun w b o p=>CellsE w b o (qdj p)) (f:=qdj) (fun _=>rfl) h fun b o x hx j u hj=>hx j u hj
theorem q13 {n:Nat}{w:World}{base:Nat}{e:TypeId}{v:Value}{k:Nat}{ps:List (ql×Value)}(h:w.ownsRow base e 2 v k (ps.flatMap qdj))(hk:k=ps.length)(hb:ps.length<=1073741824)(hn:n<=w.heap.size)(hT: ∀p,p∈ps->qae n w p.2 p.1.tuple):FactsIn w.heap.size w v (ps.map (·.1)):=by
 have hA:qp7 w.heap.size w v ps:=qdx h ps hk hb _ fun b i p hp hc=>fun j u hj=>by
  have hj2:j<2:=by
   have:=(List.getElem?_eq_some_iff.1 hj).1
   simpa [qdj]using this
  have hi:=qbc qdj 2 (fun _=>rfl) _ i j p hp hj2;have:=hc j hj2;rw [hi,hj]at this;exact this
 obtain⟨a,c,hv,hl,hc,he⟩:=hA;refine⟨a,c,by rw [length_map];exact hv,by rw [length_map];exact hl,by rw [length_map];exact hc,fun i f hf=>?_⟩;rw [getElem?_map]at hf;cases hp:ps[i]? with
 |none=>rw [hp] at hf;cases hf
 |some p=>
  rw [hp]at hf;cases hf;obtain⟨b,o,e1,hb1,hcl⟩:=he i p hp;exact⟨b,o,e1,hb1,p.2,hcl,qez (hT p (mem_of_getElem? hp)) hn⟩
def qyc (n:Nat)(w:World)(b o:Nat)(fs:List ql):Prop:= ∃v,w.cell? ⟨b,o,none⟩=some v/\FactsIn n w v fs
set_option maxRecDepth 100000 in
set_option maxHeartbeats 2000000 in
theorem q14 {n m:Nat}{v:Value}{ls:List (List ql)}{w:World}(hl:SliceIn m w 1 (qyc n) v ls)(hn:n<=m)(hm:m<=w.heap.size)(htot:ls.flatten.length<=1073741824):
  Calls prog 21 #[v] w fun e w'=> ∃v',e=.returned v'/\Keep (fun b=>b<w.heap.size) w w'/\FactsIn w'.heap.size w' v' ls.flatten:=by
 obtain⟨al,cl,rfl,hll,hcl,hel⟩:=id hl;have htk: ∀k,(ls.take k).flatten.length<=ls.flatten.length:=fun k=>by
  conv=>rhs;rw [←take_append_drop k ls,flatten_append,length_append]
  omega
 refine hd3 ?_ hl hel htk;clear hl hel htk;intro Xhl Xhel Xhtk
 go_enter Tryz.func21,Tryz.ntmps21
 go_wp2_with fail
 go_loopw [3,4] (fun v3 ix wr=> ∃(k:Nat) (ps:List (ql×Value)),k<=ls.length/\ix=.int .i64 (k:Int)/\Keep (fun b=>b<w.heap.size) w wr/\ps.map (·.1)=(ls.take k).flatten/\(∀p,p∈ps->qae n w p.2 p.1.tuple)/\wr.ownsRow w.heap.size 52 2 v3 ps.length (ps.flatMap qdj)) (fun _ i _=>ls.length-(intOf i).toNat)
 case atStart=>exact⟨0,[],by omega,rfl,Keep.refl _ _,rfl,fun p h=>(by cases h),World.ownsRow_nil _ _ _ _⟩
 case round=>
  obtain⟨k,ps,hk,rfl,hK,hps,hT,hO⟩:=hrel;have hszk:=hK.size;have hk0:(0:Int)<=k:=by omega
  obtain⟨a3,c3,rfl⟩:=qi hO;have hpl:ps.length<=1073741824:=by
   have h1:=congrArg List.length hps;rw [length_map]at h1;have h2:=Xhtk.o k;omega
  by_cases hlt:k<ls.length
  ·have hlt1:(k:Int)<ls.length:=by omega
   obtain⟨fs,hfs⟩: ∃fs,ls[k]?=some fs:=⟨_,getElem?_eq_getElem hlt⟩;obtain⟨b,o,rfl,hb,vf,hvf,hff⟩:=Xhel.o k fs hfs;obtain⟨qs,hq1,hq2,hq3⟩:=qwe hff;obtain⟨aq,cq,rfl,hlq,hcq,heq⟩:=id hq2;have f0:=hK.cell hvf (show b<w.heap.size by omega);simp only [Nat.mul_one]at f0;have hbw:b<wr.heap.size:=by omega
   have kn:Keep (fun b=>b<n) w wr:=hK.mono fun b _ h=>by omega
   have hq2r:qp7 n wr (.slice aq qs.length cq) qs:=hq2.mono fun b o p hb h=>fun j u hj=>kn.cell (h j u hj) hb;have hsum:(ls.take (k+1)).flatten=(ls.take k).flatten++fs:=by rw [take_add_one,hfs,flatten_append];simp
   have hlen:ps.length+qs.length<=1073741824:=by
    have h1:=congrArg List.length hps;have h3:=congrArg List.length hq1;have h2:=Xhtk.o (k+1);rw [hsum,length_append]at h2;rw [length_map]at h1 h3;omega
   obtain⟨v',W5,hr5,ho5,hg5,hk5⟩:=qji (P:=prog) q4j 28 hO aq qs.length cq (qs.flatMap qdj) (qa0 qdj 2 (fun _=>rfl) _) (qp8 hq2r).1 (qp8 hq2r).2 (fun u hu=>by
    obtain⟨p,hp,hu⟩:=mem_flatMap.1 hu;obtain⟨ax,cx,hx,-,-,-⟩:=hq3 p hp;unfold qdj at hu;rw [hx]at hu;simp at hu;rcases hu with rfl |rfl<;>simp [Value.oneCell']) (by omega) (by omega)
   obtain⟨a5,c5,rfl⟩:=qi ho5;have kW:=hK.trans (hk5.mono fun b _ (h:b<w.heap.size) e=>by
    rcases hg5 b e with h1 |h1
    ·exact qh6 hO h h1.symm
    ·omega)
   have ho6:W5.ownsRow w.heap.size 52 2 (.slice a5 (ps.length+qs.length) c5) (ps++qs).length ((ps++qs).flatMap qdj):=by
    rw [flatMap_append,length_append];exact ho5
   have hps6:(ps++qs).map (·.1)=(ls.take (k+1)).flatten:=by rw [map_append,hps,hq1,hsum]
   have hT6: ∀p,p∈ps++qs->qae n w p.2 p.1.tuple:=fun p hp=>by
    rcases mem_append.1 hp with h |h
    ·exact hT p h
    ·exact hq3 p h
   clear hps hT hfs hvf hff hq1 hq2 hq3 heq kn hq2r hsum hg5 hk5 ho5;refine hd7 ?_ hK hO hr5 kW ho6 hps6 hT6;clear hK hO hr5 kW ho6 hps6 hT6;intro XhK XhO Xhr5 XkW Xho6 Xhps6 XhT6;go_wp2_with (at_builtin;refine qcq (v:=.slice a3 ps.length c3) (u:=.slice aq qs.length cq) (v':=.slice a5 (ps.length+qs.length) c5) (w':=W5) rfl (.tmp 11) (.tmp 15) 28 rfl rfl rfl Xhr5.o ?_);go_roundw
   case rel=>exact⟨k+1,ps++qs,by omega,by go_num,XkW.o,Xhps6.o,XhT6.o,Xho6.o⟩
   case measure=>simp [intOf];omega
  ·obtain rfl:k=ls.length:=by omega
   rw [take_length]at hps;have hF:=q13 (n:=n) hO rfl hpl (by omega) (fun p hp=>qbr (hT p hp) (hK.mono fun b _ h=>by omega));rw [hps]at hF;clear hlt hps hT;refine hd3 ?_ hK hO hF;clear hK hO hF;intro XhK XhO XhF;go_wp2_with fail;go_ret;exact⟨_,rfl,XhK.o,XhF.o⟩
end Go.Proofs
