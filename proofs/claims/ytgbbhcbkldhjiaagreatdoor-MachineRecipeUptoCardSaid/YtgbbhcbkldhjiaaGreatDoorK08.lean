import Derived.Test.YtgbbhcbkldhjiaaGreatDoorK06
import Derived.Test.YtgbbhcbkldhjiaaGreatDoorK07
import Derived.Test.YtgbbhcbkldhjiaaGreatDoorK03
import Derived.RecoverIn
set_option linter.all false
set_option maxRecDepth 100000
set_option maxHeartbeats 16000000
namespace Go.Proofs.YtgbbhcbkldhjiaaGreatDoor
open Go.Proofs.Tryz Go.RowKit Bf
def tD(W:World)(s:SrcR)(p:Prop)(e:Ending)(w':World):Prop:=
 eB W w'/\∃(x:SrcR)(k:Int),e=.returned (.tuple #[.agg (srcC x).toArray,.int .i64 k])/\ap w' x/\((k=0/\ip x s=true)<->p)
structure tE(s:SrcR)(w:World)(pN pB pL:Prop):Prop where
 res:∀W,eB w W->Calls prog 70 #[.agg (srcC s).toArray] W (tD W s pN)
 hole:∀W,eB w W->Calls prog 72 #[.agg (srcC s).toArray] W (yE W s)
 bal:∀W,eB w W->TypesOk s->Calls prog 73 #[.agg (srcC s).toArray] W (gG W pB)
 lev:∀W,eB w W->TypesOk s->bB s=true->Calls prog 74 #[.agg (srcC s).toArray] W (gG W pL)
def qj(s:SrcR)(pN pB pL:Prop):Prop:=pN/\TypesOk s/\(gI s 0).isSome=true/\bB s=true/\iW s/\pB/\pL
def GP(s)(w)(pN pB pL:Prop)(hS:ap w s)(hT:Tab w)(hD:tE s w pN pB pL):Calls prog 39 #[.agg (srcC s).toArray] w (gG w (qj s pN pB pL)):=by
 have bt:(srcC s).toArray.size=8:=rfl;have HD:=MY hD;have HS:=MY (fun W (hW:eB w W)=>hS.below hW);have br:=MY (fun W (hW:eB w W)=>nJ s W (hS.below hW) (hT.below hW));have bo:=MY (fun W (hW:eB w W)=>ta s 0 W (hS.below hW) (by decide));obtain⟨W1,bh⟩:=nm (w.alloc (.cells (srcC s).toArray 31));have K1:=MY (Blk.new w (srcC s) 31);have B1:=MY ((NB w.heap.size w).alloc (No _) (.cells (srcC s).toArray 31));rw[bh]at K1 B1;obtain⟨P,hP⟩:=nm (qj s pN pB pL);rw[hP];have HP:=MY (show P<->qj s pN pB pL by rw[hP]);clear hP hS hT hD;go_enter func39,ntmps39;go_wp2_with (refine wR 31 (ai K1.out) ?_);refine(HD.res W1 B1.out).mono ?_;rintro e w2 ⟨ag,x,k,rfl,hX,hk⟩;have ad:=MY (qe hX);have bs:(srcC x).toArray.size=8:=rfl;obtain⟨xb,ao⟩:=nm w2.heap.size;obtain⟨W3,bi⟩:=nm (w2.alloc (.cells (srcC x).toArray 31));have aA:=MY (hX.below ((NB _ _).alloc (No _) (.cells (srcC x).toArray 31)));have K3:=MY ((K1.below ag K1.lt).alloc (.cells (srcC x).toArray 31));have X3:=MY (Blk.new w2 (srcC x) 31);have B3:=MY ((B1.trans (ag.mono B1.size)).alloc (Nv B1.size ag.size) (.cells (srcC x).toArray 31));have HK:=MY hk;rw[bi]at K3 X3 B3 aA;rw[ao]at X3;have bg:=MY (GM x s W3 aA.out (HS.out W3 B3.out));clear ag hX hk bh;by_cases ab:k=0
 case neg=>
  go_wp2_with (refine wB ao ad.out ?_);refine bodyPost_ret (v:= .int .i64 k) (by simp[results,results39,go_sem]) rfl ⟨B3.out,k,rfl,⟨fun h=>absurd h ab,fun h=>absurd (HK.2 (HP.1 h).1).1 ab⟩⟩
 subst ab;go_wp2_with (first|(refine wB ao ad.out ?_)|(refine wR 31 (ai X3.out) ?_)|(refine wR 31 (ai K3.out) ?_));refine bg.mono ?_;rintro e w4 ⟨rfl,ba⟩;have K4:=MY (K3.below ba K3.lt);have B4:=MY (B3.trans (ba.mono B3.size));clear ba K1 B1 K3 B3 X3 aA bg bi ao
 cases an:ip x s with
 |false=>
  have HF:=MY an
  clear an
  go_wp2_with fail
  refine bodyPost_ret (v:= .int .i64 160) (by simp[results,results39,go_sem]) rfl ⟨B4.out,160,rfl,⟨fun h=>absurd h (by decide),fun h=>by have:=(HK.2 (HP.1 h).1).2;rw[HF.out]at this;cases this⟩⟩
 |true=>
 have HN:=MY (HK.1 ⟨by first|rfl|trivial,an⟩);clear an HK;go_wp2_with (refine wR 31 (ai K4.out) ?_);refine(br.out w4 B4.out).mono ?_;rintro e w5 ⟨bb,k,rfl,hk⟩;have K5:=MY (K4.below bb K4.lt);have B5:=MY (B4.trans (bb.mono B4.size));have HK:=MY hk;clear bb hk K4 B4;by_cases ab:k=0
 case neg=>
  go_wp2_with fail;refine bodyPost_ret (v:= .int .i64 k) (by simp[results,results39,go_sem]) rfl ⟨B5.out,k,rfl,⟨fun h=>absurd h ab,fun h=>absurd (HK.2 (HP.1 h).2.1) ab⟩⟩
 subst ab;have ax:=MY (HK.1 (by first|rfl|trivial));clear HK;go_wp2_with (refine wR 31 (ai K5.out) ?_);refine(bo.out w5 B5.out).mono ?_;rintro e w6 ⟨bc,h6⟩;have K6:=MY (K5.below bc K5.lt);have B6:=MY (B5.trans (bc.mono B5.size));clear bc K5 B5
 cases ac:gI s 0 with
 |none=>
  rw[ac]at h6
  simp only at h6
  subst h6
  have HF:=MY ac
  clear ac
  go_wp2_with fail
  refine bodyPost_ret (v:= .int .i64 130) (by simp[results,results39,go_sem]) rfl ⟨B6.out,130,rfl,⟨fun h=>absurd h (by decide),fun h=>by have:=(HP.1 h).2.2.1;rw[HF.out]at this;cases this⟩⟩
 |some c=>
 rw[ac]at h6;simp only at h6;obtain⟨v6,rfl,_⟩:=h6;have HC:=MY (show(gI s 0).isSome=true by rw[ac];rfl);clear ac;go_wp2_with (refine wR 31 (ai K6.out) ?_);refine(HD.hole w6 B6.out).mono ?_;rintro e w7 ⟨al,x1,x2,x3,x5,A,n,cc,ok,k,rfl,bm,bn⟩;have K7:=MY ((K6.below al K6.lt).alloc (.cells #[.int .i64 x1,.int .i64 x2,.int .i64 x3,.slice A n cc,.int .i64 x5] 141));have B7:=MY ((B6.trans (al.mono B6.size)).alloc (Nv B6.size al.size) (.cells #[.int .i64 x1,.int .i64 x2,.int .i64 x3,.slice A n cc,.int .i64 x5] 141));have ar:=MY bm;have av:=MY bn;clear al bm bn K6 B6;obtain⟨W8,bk⟩:=nm (w7.alloc (.cells #[.int .i64 x1,.int .i64 x2,.int .i64 x3,.slice A n cc,.int .i64 x5] 141));rw[bk]at K7 B7;by_cases ab:k=0
 case neg=>
  go_wp2_with fail;refine bodyPost_ret (v:= .int .i64 k) (by simp[results,results39,go_sem]) rfl ⟨B7.out,k,rfl,⟨fun h=>absurd h ab,fun h=>absurd (ar.2 (HP.1 h).2.2.2.1) ab⟩⟩
 subst ab;have HO:=MY (ar.1 (by first|rfl|trivial));clear ar
 cases be:ok with
 |true=>
  subst be
  go_wp2_with fail
  refine bodyPost_ret (v:= .int .i64 131) (by simp[results,results39,go_sem]) rfl ⟨B7.out,131,rfl,⟨fun h=>absurd h (by decide),fun h=>by have:=(av.out HO.out).2 (HP.1 h).2.2.2.2.1;cases this⟩⟩
 |false=>
 have bp:=MY ((av.out HO.out).1 be);subst be;clear av;go_wp2_with (refine wR 31 (ai K7.out) ?_);refine(HD.bal W8 B7.out ax.out).mono ?_;rintro e w9 ⟨bd,k,rfl,hk⟩;have K9:=MY (K7.below bd K7.lt);have B9:=MY (B7.trans (bd.mono B7.size));have HK:=MY hk;clear bd hk K7 B7 bk;by_cases ab:k=0
 case neg=>
  go_wp2_with fail;refine bodyPost_ret (v:= .int .i64 k) (by simp[results,results39,go_sem]) rfl ⟨B9.out,k,rfl,⟨fun h=>absurd h ab,fun h=>absurd (HK.2 (HP.1 h).2.2.2.2.2.1) ab⟩⟩
 subst ab;have HB:=MY (HK.1 (by first|rfl|trivial));clear HK;go_wp2_with (refine wR 31 (ai K9.out) ?_);refine(HD.lev w9 B9.out ax.out HO.out).mono ?_;rintro e wA ⟨bl,k,rfl,hk⟩;have BA:=MY (B9.trans (bl.mono B9.size));have HK:=MY hk;clear bl hk K9 B9;go_wp2_with fail;refine bodyPost_ret (v:= .int .i64 k) (by simp[results,results39,go_sem]) rfl ⟨BA.out,k,rfl,⟨fun h=>HP.2 ⟨HN.out,ax.out,HC.out,HO.out,bp.out,HB.out,HK.1 h⟩,fun h=>HK.2 (HP.1 h).2.2.2.2.2.2⟩⟩
structure cT where
 src:SrcR
 lv:Value
 cv:Value
 levels:List Int
 codes:List cV
def aL(t:cT):List Value:=srcC t.src++[t.lv,t.cv]
structure cW(w:World)(t:cT):Prop where
 src:ap w t.src
 lev:RowC w 1 t.lv (t.levels.map af)
 ll:t.levels.length<=1048576
 row:RowC w 1 t.cv (t.codes.map codeC)
 cl:t.codes.length<=1048576
 code:∀c∈t.codes,qi w c
def cW.below{w W}{t:cT}(h:cW w t)(hb:eB w W):cW W t:=⟨h.src.below hb,h.lev.below hb,h.ll,h.row.below hb,h.cl,fun c hc=>⟨(h.code c hc).1.below hb,(h.code c hc).2⟩⟩
noncomputable def lP(a b:cT):Bool:=ip a.src b.src&&(eqB a.levels b.levels&&aV tC a.codes b.codes)
def nN{w:World}{b o:Nat}{l r}(h:w.rangeAt b o (l++r)):w.rangeAt b o l:=fun j v hv=>h j v (by rw[N4 (NQ.1 hv).1];exact hv)
instance sameTab_c{As:List Asn}{w0:World}{a b:cT}[Old As w0][ha:Fct (cW w0 a)][hb:Fct (cW w0 b)]:Con prog 25 #[.agg (aL a).toArray,.agg (aL b).toArray] As (.bool (lP a b)) As:=⟨fun w M=>by
 haveI:=Fct.mk ha.1.src;haveI:=Fct.mk hb.1.src;haveI:ah w0 a.lv Int 1 a.levels af:=⟨ha.1.lev,ha.1.ll⟩
 haveI:ah w0 b.lv Int 1 b.levels af:=⟨hb.1.lev,hb.1.ll⟩
 haveI:ah w0 a.cv cV 1 a.codes codeC:=⟨ha.1.row,ha.1.cl⟩
 haveI:ah w0 b.cv cV 1 b.codes codeC:=⟨hb.1.row,hb.1.cl⟩
 haveI:=Fct.mk ha.1.code;haveI:=Fct.mk hb.1.code
 cases h1:ip a.src b.src
 case' true=>cases h2:eqB a.levels b.levels
 all_goals
  go_enter func25,ntmps25
  go_wp2_with refine mz M fun M=>?_
  go_ret
  exact⟨by simp[lP, *],M.dr 2⟩⟩
def GR(a b:cT)(w)(ha:cW w a)(hb:cW w b):Calls prog 25 #[.agg (aL a).toArray,.agg (aL b).toArray] w (Ret w (.bool (lP a b))):=by
 haveI:=Fct.mk ha;haveI:=Fct.mk hb;exact(sameTab_c.out w (Sep.new w)).mono fun _ _ h=>⟨h.1,h.2.bel⟩
def nO(W:World)(p:Prop)(l:List Int)(e:Ending)(w':World):Prop:=
 eB W w'/\∃(v:Value)(k:Int),e=.returned (.tuple #[v,.int .i64 k])/\(k=0<->p)/\(k=0->aa w' W.heap.size 3 1 v (l.map af)/\l.length<=1048576)
def codesTo(s:SrcR):Nat->Option (List (List In))
 |0=>some []
 |q+1=>match codesTo s q with
  |some l=>match codeR s ((q/8:Nat):Int) ((q%8:Nat):Int)with
   |some c=>some (l++[c])
   |none=>none
  |none=>none
def yF{s}{q:Nat}(h:codesTo s q=none):∀{m:Nat},q<=m->codesTo s m=none
 |0,hm=>by
  have:q=0:=by omega
  subst this;exact h
 |m+1,hm=>by
  by_cases e:q=m+1
  ·rw[<-e];exact h
  ·rw[codesTo,yF h (show q<=m by omega)]
def qm{s}:∀{q:Nat} {l:List (List In)},codesTo s q=some l->l.length=q
 |0,l,h=>by simp only[codesTo,Option.some.injEq]at h;subst h;rfl
 |q+1,l,h=>by
  simp only[codesTo]at h;split at h
  ·rename_i l' hl;split at h
   ·cases h;rw[Oe,qm hl];rfl
   ·cases h
  ·cases h
def qn(s:SrcR)(pN pB pL pV:Prop):Prop:=qj s pN pB pL/\pV/\(codesTo s (8*s.items.length)).isSome=true
def eI:SrcR:=⟨.slice none 0 0,.slice none 0 0,.slice none 0 0,.slice none 0 0,.slice none 0 0,.slice none 0 0,.slice none 0 0,.slice none 0 0,[],[],[],[],[],[],[],[]⟩
def bP:cT:=⟨eI,.slice none 0 0,.slice none 0 0,[],[]⟩
def GS(w):ap w eI:=⟨RowC.nil _ _ _ _,RowC.nil _ _ _ _,RowC.nil _ _ _ _,RowC.nil _ _ _ _,RowC.nil _ _ _ _,RowC.nil _ _ _ _,RowC.nil _ _ _ _,RowC.nil _ _ _ _,by simp[eI],by simp[eI],by simp[eI],by simp[eI,BIG],by simp[eI,BIG],by simp[eI,BIG],by simp[eI,BIG],by simp[eI,BIG],by simp[eI,BIG],by simp[eI,BIG],by simp[eI,BIG]⟩
def qp(w):cW w bP:=⟨GS w,RowC.nil _ _ _ _,by simp[bP],RowC.nil _ _ _ _,by simp[bP],by simp[bP]⟩
def GU(w:World)(s:SrcR)(P:Prop)(lv:List Int)(e:Ending)(w':World):Prop:=
 eB w w'/\∃(t:cT)(k:Int),e=.returned (.tuple #[.agg (aL t).toArray,.int .i64 k])/\cW w' t/\(k=0<->P)/\(k=0->t.src=s/\t.levels=lv/\codesTo s (8*s.items.length)=some (t.codes.map (·.code)))
def GV(a b c d e f g h)(A)(n k:Nat):prog.built 35 [(0,.agg #[a,b,c,d,e,f,g,h]),(1,.slice A n k)]=some #[a,b,c,d,e,f,g,h,.slice A n k,.slice none 0 0]:=by kernel_rfl
structure fL(w0:World)(s:SrcR)(lv:List Int)(tb B D:Nat)(lvv:Value)(W:World)(cs:List cV)(cv:Value):Prop where
 blk:Blk W tb (srcC s++[lvv,cv]) 35
 own:aa W B 73 1 cv (cs.map codeC)
 lev:aa W D 3 1 lvv (lv.map af)
 code:∀c∈cs,aa W D 72 6 c.cv (c.code.map au)/\c.code.length<=1048576
 below:Below tb w0 W
 base:B<=W.heap.size
 lt:tb<B
def fL.step{w0 W W'}{s}{lv:List Int}{tb B D:Nat}{lvv cv}{cs:List cV}(h:fL w0 s lv tb B D lvv W cs cv)(hb:eB W W'):fL w0 s lv tb B D lvv W' cs cv:=
 ⟨h.blk.below hb h.blk.lt,h.own.below hb (No _),h.lev.below hb (No _),fun c hc=>⟨(h.code c hc).1.below hb (No _),(h.code c hc).2⟩,h.below.trans (hb.mono (NS h.blk.lt)),Nv h.base hb.size,h.lt⟩
def fL.grow{w0 W W'}{s}{lv:List Int}{tb B D:Nat}{lvv cv cv'}{cs:List cV}{c:cV}(h:fL w0 s lv tb B D lvv W cs cv)(hc:aa W D 72 6 c.cv (c.code.map au)/\c.code.length<=1048576)(ho:aa W' B 73 1 cv' ((cs.map codeC)++[codeC c]))(hg:W.grownBy W' cv.ownBlock) :fL w0 s lv tb B D lvv (W'.setCell ⟨tb,9,none⟩ cv') (cs++[c]) cv':=by
 have hb:Blk W' tb (srcC s++[lvv,cv]) 35:=h.blk.ownG h.own (by decide) hg;refine⟨hb.set 9 cv',?_,?_,?_,?_,?_,h.lt⟩
 ·rw[N9];exact ho.set hb (by decide) cv'
 ·exact(h.lev.ownG h.own (by decide) hg).set hb (by decide) cv'
 ·intro x hx;rcases Of.1 hx with hx|hx
  ·exact⟨((h.code x hx).1.ownG h.own (by decide) hg).set hb (by decide) cv',(h.code x hx).2⟩
  ·simp only[Oi]at hx;subst hx;exact⟨(hc.1.ownG h.own (by decide) hg).set hb (by decide) cv',hc.2⟩
 ·exact(h.below.grown hg (NS h.blk.lt) (fun k e=>Nv (NS h.lt) (h.own.ge e))).setCell (p:=⟨tb,9,none⟩) (No _) cv'
 ·have:=h.base;have:=hg.size;simp only[World.setCell,Array.size_modify];omega
def fL.put{w0 W W'}{s}{lv:List Int}{tb B D:Nat}{lvv cv}{cs:List cV}(h:fL w0 s lv tb B D lvv W cs cv)(hz:Blk W' tb (srcC s++[lvv,cv]) 35)(hg:W.grownBy W' (some tb)):fL w0 s lv tb B D lvv W' cs cv:=
 ⟨hz,h.own.of_block fun g e=>hg.block g (h.own.lt e) (fun e'=>by have:=h.own.ge e;have:=h.lt;have:=Option.some.inj e';omega),
  h.lev.of_block fun g e=>hg.block g (h.lev.lt e) (fun e'=>h.lev.ne_blk h.blk (by decide) g e (Option.some.inj e')),
  fun c hc=>⟨(h.code c hc).1.of_block fun g e=>hg.block g ((h.code c hc).1.lt e) (fun e'=>(h.code c hc).1.ne_blk h.blk (by decide) g e (Option.some.inj e')),(h.code c hc).2⟩,
  h.below.grown hg (NS h.blk.lt) (fun k e=>by cases e;exact No _),Nv h.base hg.size,h.lt⟩
def GX:bE prog 33 73 1 24:=bE.mk' (z:= .slice none 0 0) underlying33 (by kernel_rfl) (by decide)
def tF{s:SrcR}{item plant:Int}(hm:∀r∈s.recs,r.ifs.length<=1024/\r.ins.length<=1024/\r.outs.length<=1024/\r.runs.length<=1024):∀{l:List RecR} {k:Nat} {c:List In},(∀r∈l,r∈s.recs)->codeFrom s item plant l k=some c->c.length<=l.length*8192
 |[],k,c,_,h=>by simp only[codeFrom,Option.some.injEq]at h;subst h;simp
 |r::l,k,c,hl,h=>by
  simp only[codeFrom]at h;rw[M6,Nat.succ_mul];split at h
  ·split at h
   ·rename_i b hb;split at h
    ·rename_i c2 hc2
     cases h;have h1:=tF hm (fun q hq=>hl q (by simp[hq])) hc2;have h2:=tB hb;have h3:=hm r (hl r (by simp));rw[Oe,i8,h2];have:(ct r).length=2+r.ifs.length:=by simp[ct];omega
     omega
    ·cases h
   ·cases h
  ·exact Nv (tF hm (fun q hq=>hl q (by simp[hq])) h) (Nat.le_add_right _ _)
def GY{s}{item plant:Int}{c:List In}(hm:lM s)(h:codeR s item plant=some c):c.length<=1048576:=by
 unfold codeR at h;have hs:=hm.1;split at h
 ·cases h;simp
 ·rename_i x c' h0
  cases h;have h1:=tF hm.2 (fun r hr=>hr) h0;have h2:s.recs.length*8192<=64*8192:=Nd 8192 hs;rw[Oe,OP];generalize (x::c').length=n at *;omega
 ·cases h
def qs(b:Nat)(W)(tmps:Array Value)(k:Int)(a1 a2 a3 a4 a5 a6 a7 a8 a9 aA)(h2:tmps.getD 2 undef=.pointer b)(h3:tmps.getD 3 undef=.int .i64 k)(K:Blk W b [a1,a2,a3,a4,a5,a6,a7,a8,a9,aA] 35) :(results Tryz.f24 tmps).run prog W=.ok (.tuple #[.agg #[a1,a2,a3,a4,a5,a6,a7,a8,a9,aA],.int .i64 k]) W:=by
 rw[Ow]at h2 h3;have r0:=(K.at 0 _ rfl).1;have r1:=(K.at 1 _ rfl).1;have r2:=(K.at 2 _ rfl).1;have r3:=(K.at 3 _ rfl).1;have r4:=(K.at 4 _ rfl).1;have r5:=(K.at 5 _ rfl).1;have r6:=(K.at 6 _ rfl).1;have r7:=(K.at 7 _ rfl).1;have r8:=(K.at 8 _ rfl).1;have r9:=(K.at 9 _ rfl).1;simp[results,results24,go_sem,h2,h3,r0,r1,r2,r3,r4,r5,r6,r7,r8,r9]
def GZ(s)(w)(pN pB pL pV:Prop)(lv:List Int)(hS:ap w s)(hm:lM s)(hT:Tab w)(hD:tE s w pN pB pL)(hL:∀W,eB w W->TypesOk s->bB s=true->Calls prog 40 #[.agg (srcC s).toArray] W (nO W pV lv)) :Calls prog 24 #[.agg (srcC s).toArray] w (GU w s (qn s pN pB pL pV) lv):=by
 have db:(srcC s).toArray.size=8:=rfl;have bk:=MY (fun W (hW:eB w W)=>GP s W pN pB pL (hS.below hW) (hT.below hW) ⟨fun V hV=>hD.res V (hW.trans (hV.mono hW.size)),fun V hV=>hD.hole V (hW.trans (hV.mono hW.size)),fun V hV=>hD.bal V (hW.trans (hV.mono hW.size)),fun V hV=>hD.lev V (hW.trans (hV.mono hW.size))⟩);have bl:=MY (fun(ht:TypesOk s)(i p:Int) W (hW:eB w W)=>GJ s i p W (hS.below hW) ht.1 (fun r hr=>(by
  have:=ht.2.2;unfold fF at this;simp only[Ob,Od]at this;exact this.2.2.2.2.1 r hr)) hm (hT.below hW))
 have HS:=MY (fun W (hW:eB w W)=>hS.below hW);have cm:=MY hL;have cn:=MY hm;have co:=MY (fun(ht:TypesOk s)=>(show s.items.length<=32 by
  have:=ht.2.1;unfold dG at this;simp only[Ob,decide_eq_true_eq]at this;exact this.1))
 obtain⟨A1,A2,A3,A4,A5,A6,A7,A8,k1,k2,k3,k4,k5,k6,k7,k8,e1,e2,e3,e4,e5,e6,e7,e8⟩:=hS.slices;obtain⟨ni,bo⟩:=nm s.items.length;rw[bo]at e2;have E2:=MY e2;have bc:=MY bo;have av:=MY (qe hS);obtain⟨W1,bt⟩:=nm (w.alloc (.cells (srcC s).toArray 31));have K1:=MY (Blk.new w (srcC s) 31);have B1:=MY ((NB w.heap.size w).alloc (No _) (.cells (srcC s).toArray 31));rw[bt]at K1 B1;obtain⟨tb,br⟩:=nm W1.heap.size;have bg:=MY (show w.heap.size<tb by rw[<-br];exact K1.lt);obtain⟨W2,al⟩:=nm (W1.alloc (.cells #[.slice none 0 0,.slice none 0 0,.slice none 0 0,.slice none 0 0,.slice none 0 0,.slice none 0 0,.slice none 0 0,.slice none 0 0,.slice none 0 0,.slice none 0 0] 35));have K2:=MY (K1.alloc (.cells (aL bP).toArray 35));have T2:=MY (Blk.new W1 (aL bP) 35);have B2:=MY (B1.alloc B1.size (.cells (aL bP).toArray 35));replace al:W1.alloc (.cells (aL bP).toArray 35)=W2:=al;rw[al]at K2 T2 B2;replace al:(W1.alloc (.cells #[.slice none 0 0,.slice none 0 0,.slice none 0 0,.slice none 0 0,.slice none 0 0,.slice none 0 0,.slice none 0 0,.slice none 0 0,.slice none 0 0,.slice none 0 0] 35))=W2:=al;rw[br]at T2;obtain⟨P,hP⟩:=nm (qn s pN pB pL pV);rw[hP];have HP:=MY (show P<->qn s pN pB pL pV by rw[hP]);clear hP hS hT hD hm hL e1 e2 e3 e4 e5 e6 e7 e8 bo K1 B1;go_enter func24,ntmps24;go_wp2_with (refine wR 31 (ai K2.out) ?_);refine(bk.out W2 B2.out).mono ?_
 rintro e w3 ⟨bd,k,rfl,hk⟩;have K3:=MY (K2.below bd K2.lt);have T3:=MY (T2.below bd T2.lt);have B3:=MY (B2.trans (bd.mono B2.size));have HK:=MY hk;clear bd hk K2 T2 B2 bt al br;have ba:w.heap.size<=tb:=NS bg.out;by_cases ab:k=0
 case neg=>
  go_wp2_with (refine eT 35 10 (by kernel_rfl) rfl (.tmp 2) (.tmp 14) rfl rfl tb rfl (aL bP) rfl (aL bP) 35 T3.out rfl rfl rfl (fun w' hz' hg'=>?_));refine bodyPost_ret (qs tb _ _ k _ _ _ _ _ _ _ _ _ _ rfl rfl hz') rfl ⟨B3.grown hg' B3.size (fun k e=>by cases e;exact ba),bP,k,rfl,qp _,⟨fun h=>absurd h ab,fun h=>absurd (HK.2 (HP.1 h).1) ab⟩,fun h=>absurd h ab⟩
 subst ab;have an:=MY (HK.1 (by first|rfl|trivial));clear HK;go_wp2_with (refine wR 31 (ai K3.out) ?_);refine(cm.out w3 B3.out an.2.1 an.2.2.2.1).mono ?_;rintro e w4 ⟨be,v,k,rfl,hk,hv⟩;have K4:=MY (K3.below be K3.lt);have T4:=MY (T3.below be T3.lt);have B4:=MY (B3.trans (be.mono B3.size));have HK:=MY hk;have HV:=MY hv;have ar:=MY T3.lt;clear be hk hv K3 T3 B3;by_cases ab:k=0
 case neg=>
  go_wp2_with (refine eT 35 10 (by kernel_rfl) rfl (.tmp 2) (.tmp 23) rfl rfl tb rfl (aL bP) rfl (aL bP) 35 T4.out rfl rfl rfl (fun w' hz' hg'=>?_));refine bodyPost_ret (qs tb _ _ k _ _ _ _ _ _ _ _ _ _ rfl rfl hz') rfl ⟨B4.grown hg' B4.size (fun k e=>by cases e;exact ba),bP,k,rfl,qp _,⟨fun h=>absurd h ab,fun h=>absurd (HK.2 (HP.1 h).2.1) ab⟩,fun h=>absurd h ab⟩
 subst ab;have cp:=MY (HK.1 (by first|rfl|trivial));have ac:=MY (HV.out (by first|rfl|trivial));have bm:=MY ac.2;clear HK HV;obtain⟨AV,cv,rfl⟩:=ac.1.slice;rw[N6]at ac⊢;obtain⟨nv,bp⟩:=nm lv.length;have cC:=MY bp;rw[bp]at ac⊢;have s0:=HS.out w4 B4.out;go_upto_region 7 with fail;have ch:=MY (show((srcC s++[Value.slice AV nv cv,Value.slice none 0 0]).all fun v=>v.oneCell')=true by rw[List.all_append,av.out];rfl);go_wp2_with (first|(refine wR 31 (ai K4.out) ?_)|(refine pX 35 _ _ rfl rfl (.agg (srcC s).toArray) (.slice AV nv cv) rfl rfl _ (GV s.uv s.iv s.pv s.mv s.ov s.fv s.rv s.sv AV nv cv) ?_)|(refine eT 35 10 (by kernel_rfl) rfl (.tmp 2) (.tmp 27) rfl rfl tb rfl (srcC s++[Value.slice AV nv cv,Value.slice none 0 0]) rfl (aL bP) 35 T4.out rfl rfl ch.out (fun w5 cd bv=>?_);have bn:=MY cd;have ao:=MY bv;clear cd bv;have y1:=((K4.grown ao.out (fun e=>by have:=bg.out;have:=Option.some.inj e;omega)).at 1 _ rfl).1;rw[E2.out]at y1));have K5:=MY (K4.grown ao.out (fun e=>by have:=bg.out;have:=Option.some.inj e;omega));have B5:=MY (B4.grown ao.out B4.size (fun k e=>by cases e;exact ba));have L5:=MY (show fL w5 s lv tb w5.heap.size w.heap.size (.slice AV nv cv) w5 [] (.slice none 0 0)from
  ⟨bn.out,aa.none_ _ _ _ _,by
   have h:=ac.1.of_block (w':=w5) (fun g hg=>ao.block g (ac.1.lt hg) (fun e=>by have:=ac.1.ge hg;have:=ar.out;have:=Option.some.inj e;omega));have:=(h.less (B:=w.heap.size) (by have:=ar.out;omega))
   exact this,by simp,NB _ _,No _,bn.lt⟩)
 have cl:=MY (fun W (hW:Below tb w5 W)=>K5.below hW bg.out);have ag:=MY (fun W (hW:Below tb w5 W)=>B5.trans (hW.mono ba));clear K4 T4 B4 ac ao bn y1 bp K5 B5 s0;have cb:ni<=32:=by rw[<-bc.out];exact co.out an.2.1
 go_loopw [31] (fun z W=>∃(k:Nat)(cs:List cV) (c:Value),k<=ni/\z=.int .i64 k/\Hid (fL w5 s lv tb w5.heap.size w.heap.size (.slice AV nv cv) W cs c)/\Hid (codesTo s (8*k)=some (cs.map (·.code)))) (fun z _=>ni-(intOf z).toNat)
 case atStart=>exact⟨0,[],_,Nu _,rfl,L5.out,rfl⟩
 case round=>
  obtain⟨k,cs,c,hk,rfl,LI,HC⟩:=hrel;clear L5;by_cases cw:k<ni
  case neg=>
   obtain rfl:ni=k:=by omega
   obtain⟨AC,cc,ec⟩:=LI.own.slice;have bh:=MY (show((srcC s++[Value.slice AV nv cv,c]).all fun v=>v.oneCell')=true by rw[List.all_append,av.out,ec];rfl);clear ec;go_wp2_with (first|(refine wR 35 (ai LI.blk) ?_)|(refine eT 35 10 (by kernel_rfl) rfl (.tmp 2) (.tmp 56) rfl rfl tb rfl (srcC s++[Value.slice AV nv cv,c]) rfl (srcC s++[Value.slice AV nv cv,c]) 35 LI.blk rfl rfl bh.out (fun w6 cf bw=>?_);have L6:=MY (LI.put cf bw);clear cf bw));refine bodyPost_ret (qs tb _ _ 0 s.uv s.iv s.pv s.mv s.ov s.fv s.rv s.sv (.slice AV nv cv) c rfl rfl L6.blk) rfl ⟨ag.out _ L6.below,⟨s,.slice AV nv cv,c,lv,cs⟩,0,rfl,⟨HS.out _ (ag.out _ L6.below),L6.lev.row,bm.out,L6.own.row,?_,fun x hx=>⟨(L6.code x hx).1.row,(L6.code x hx).2⟩⟩,⟨fun _=>HP.2 ⟨an.out,cp.out,?_⟩,fun _=>rfl⟩,fun _=>⟨rfl,rfl,?_⟩⟩
   ·have:=qm HC.out;rw[N6]at this;show cs.length<=_;omega
   ·rw[bc.out,HC.out];rfl
   ·rw[bc.out];exact HC.out
  obtain⟨cD,cN⟩:=ix (k:=k) (n:=ni);go_wp2_with fail;go_loopw [34] (fun z W=>∃(p:Nat)(cs:List cV) (c:Value),p<=8/\z=.int .i64 p/\Hid (fL w5 s lv tb w5.heap.size w.heap.size (.slice AV nv cv) W cs c)/\Hid (codesTo s (8*k+p)=some (cs.map (·.code)))) (fun z _=>8-(intOf z).toNat)
  case atStart=>exact⟨0,cs,c,Nu _,rfl,LI.out,HC.out⟩
  case round=>
   obtain⟨p,aA,c2,hp,rfl,ax,bb⟩:=hrel;clear LI HC;by_cases cx:p<8
   case neg=>
    obtain rfl:p=8:=by omega
    go_wp2_with fail;refine⟨⟨k+1,aA,c2,by omega,by go_num,ax.out,by show _=_;rw[show 8*(k+1)=8*k+8 by omega];exact bb.out⟩,?_⟩;simp[intOf];omega
   have cP:(0:Int)<=(p:Int):=by omega
   have cR:(p:Int)<8:=by omega
   have bs:=MY (cl.out wr ax.below);go_wp2_with (refine wR 31 (ai bs.out) ?_);refine(bl.out an.2.1 k p wr (ag.out wr ax.below)).mono ?_;rintro e w6 ⟨bu,h6⟩;have L6:=MY (ax.step bu);have cq:=MY (show w.heap.size<=wr.heap.size from(ag.out wr ax.below).size);clear bu bs
   cases ad:codeR s k p with
   |none=>
    rw[ad]at h6
    simp only at h6
    subst h6
    have HF:=MY (show codesTo s (8*k+p+1)=none by
     rw[codesTo,bb.out];simp only;rw[show(8*k+p)/8=k by omega,show(8*k+p)%8=p by omega,ad])
    clear ad
    go_wp2_with (refine eT 35 10 (by kernel_rfl) rfl (.tmp 2) (.tmp 46) rfl rfl tb rfl (aL bP) rfl (srcC s++[Value.slice AV nv cv,c2]) 35 L6.blk rfl rfl rfl (fun w' hz' hg'=>?_))
    refine bodyPost_ret (qs tb _ _ 2 _ _ _ _ _ _ _ _ _ _ rfl rfl hz') rfl ⟨(ag.out _ L6.below).grown hg' (ag.out _ L6.below).size (fun k e=>by cases e;exact ba),bP,2,rfl,qp _,⟨fun h=>absurd h (by decide),fun h=>?_⟩,fun h=>absurd h (by decide)⟩
    have h1:=(HP.1 h).2.2
    rw[yF HF.out (by rw[bc.out];omega)]at h1
    cases h1
   |some code=>
    rw[ad]at h6
    simp only at h6
    obtain⟨v6,rfl,o6⟩:=h6
    have bi:=MY (show codesTo s (8*k+(p+1))=some ((aA++[cV.mk v6 code]).map (·.code)) by
     rw[show 8*k+(p+1)=8*k+p+1 by omega,codesTo,bb.out];simp only;rw[show(8*k+p)/8=k by omega,show(8*k+p)%8=p by omega,ad];simp)
    have ci:=MY (GY cn.out ad)
    have cu:=MY (show(aA.map codeC).length<=16777216 by have:=qm bb.out;rw[N6]at this⊢;omega)
    clear ad
    have O6:=MY (o6.less cq.out)
    obtain⟨A6,c6,rfl⟩:=o6.slice
    rw[N6]at O6 bi⊢
    obtain⟨m6,bx⟩:=nm code.length
    rw[bx]at O6 bi⊢
    clear bx o6
    obtain⟨xb,cz⟩:=nm w6.heap.size
    obtain⟨W7,cr⟩:=nm (w6.alloc (.cells #[.slice A6 m6 c6] 73))
    have L7:=MY (L6.step ((NB _ _).alloc (No _) (.cells #[.slice A6 m6 c6] 73)))
    have O7:=MY (O6.alloc (.cells #[.slice A6 m6 c6] 73))
    have X7:=MY (Blk.new w6 [.slice A6 m6 c6] 73)
    rw[cr]at L7 O7 X7
    rw[cz]at X7
    have y9:=(L6.blk.at 9 _ rfl).1
    clear L6 O6
    go_wp2_with (at_builtin;refine pg GX rfl (.tmp 49) (.tmp 51) rfl w5.heap.size c2 (aA.map codeC) rfl L7.own xb 1 [.slice A6 m6 c6] 73 rfl X7.out rfl rfl cu.out L7.base (fun v8 w8 ho hg=>?_);obtain⟨A8,c8,e8⟩:=ho.slice;obtain⟨n8,ca⟩:∃n,(aA.map codeC++[[Value.slice A6 m6 c6]]).length=n:=⟨_,rfl⟩;rw[ca]at e8;subst e8;have L9:=MY (fL.grow (c:=cV.mk (.slice A6 m6 c6) code) L7.out ⟨O7.out,ci.out⟩ ho hg);clear ca;obtain⟨y9,f9⟩:=(L7.blk.ownG L7.own (by decide) hg).at 9 _ rfl;clear ho hg)
    refine⟨⟨p+1,_,_,by omega,by go_num,L9.out,bi.out⟩,?_⟩
    simp[intOf];omega
def G4{w}{t:cT}(h:cW w t):((aL t).all fun v=>v.oneCell')=true:=by
 obtain⟨A,n,e⟩:=h.lev.len;obtain⟨B,m,e'⟩:=h.row.len;unfold aL;rw[List.all_append,qe h.src,e,e'];rfl
def yG{α β:Type}{f:β->β->Bool}{g:α->β}:∀(a b:List α),aV f (a.map g) (b.map g)=aV (fun x y=>f (g x) (g y)) a b
 |[],[]=>rfl
 |x::a,y::b=>by simp only[NP,aV,yG a b]
 |[],_::_=>rfl
 |_::_,[]=>rfl
def lQ(t:cT)(pN pB pL pV:Prop)(lv:List Int):Prop:=qn t.src pN pB pL pV/\ip t.src t.src=true/\eqB lv t.levels=true/\∃cs,codesTo t.src (8*t.src.items.length)=some cs/\aV eqB cs (t.codes.map (·.code))=true
def Ha(t:cT)(w)(pN pB pL pV:Prop)(lv:List Int)(hV:cW w t)(hm:lM t.src)(hT:Tab w)(hD:tE t.src w pN pB pL)(hL:∀W,eB w W->TypesOk t.src->bB t.src=true->Calls prog 40 #[.agg (srcC t.src).toArray] W (nO W pV lv)) :Calls prog 7 #[.agg (aL t).toArray] w (gG w (lQ t pN pB pL pV lv)):=by
 have bd:(aL t).toArray.size=10:=rfl;have ax:=MY (fun W (hW:eB w W)=>GZ t.src W pN pB pL pV lv (hV.below hW).src hm (hT.below hW) ⟨fun V hV=>hD.res V (hW.trans (hV.mono hW.size)),fun V hV=>hD.hole V (hW.trans (hV.mono hW.size)),fun V hV=>hD.bal V (hW.trans (hV.mono hW.size)),fun V hV=>hD.lev V (hW.trans (hV.mono hW.size))⟩ (fun V hV=>hL V (hW.trans (hV.mono hW.size))));have HV:=MY (fun W (hW:eB w W)=>hV.below hW);obtain⟨W1,an⟩:=nm (w.alloc (.cells (aL t).toArray 35));have K1:=MY (Blk.new w (aL t) 35);have B1:=MY ((NB w.heap.size w).alloc (No _) (.cells (aL t).toArray 35));rw[an]at K1 B1;obtain⟨P,hP⟩:=nm (lQ t pN pB pL pV lv);rw[hP];have HP:=MY (show P<->lQ t pN pB pL pV lv by rw[hP]);clear hP hV hT hD hm hL;go_enter func7,ntmps7;go_wp2_with (refine wR 31 (nN (ai K1.out)) ?_);refine(ax.out W1 B1.out).mono ?_;rintro e w2 ⟨ad,x,k,rfl,hX,hk,hx⟩;have ab:=MY (G4 hX);have bc:(aL x).toArray.size=10:=rfl;obtain⟨xb,ag⟩:=nm w2.heap.size;obtain⟨W3,bb⟩:=nm (w2.alloc (.cells (aL x).toArray 35));have al:=MY (hX.below ((NB _ _).alloc (No _) (.cells (aL x).toArray 35)));have K3:=MY ((K1.below ad K1.lt).alloc (.cells (aL x).toArray 35));have X3:=MY (Blk.new w2 (aL x) 35);have B3:=MY ((B1.trans (ad.mono B1.size)).alloc (Nv B1.size ad.size) (.cells (aL x).toArray 35));have HK:=MY hk;have HX:=MY hx
 rw[bb]at K3 X3 B3 al;rw[ag]at X3;have aA:=MY (GR x t W3 al.out (HV.out W3 B3.out));clear ad hX hk hx an K1 B1;by_cases ar:k=0
 case neg=>
  go_wp2_with (refine wB ag ab.out ?_);refine bodyPost_ret (v:= .int .i64 160) (by simp[results,results7,go_sem]) rfl ⟨B3.out,160,rfl,⟨fun h=>absurd h (by decide),fun h=>absurd (HK.2 (HP.1 h).1) ar⟩⟩
 subst ar;have av:=MY (HK.1 (by first|rfl|trivial));have ba:=MY (HX.out (by first|rfl|trivial));clear HK HX;go_wp2_with (first|(refine wB ag ab.out ?_)|(refine wG 35 (ai X3.out) ?_)|(refine wG 35 (ai K3.out) ?_));refine aA.mono ?_;rintro e w4 ⟨rfl,ao⟩;have B4:=MY (B3.trans (ao.mono B3.size));have ac:lP x t=true<->lQ t pN pB pL pV lv:=by
  obtain⟨h1,h2,h3⟩:=ba.out;unfold lP lQ;rw[h1,h2,h3];simp only[Ob,Option.some.injEq,exists_eq_left',yG];exact⟨fun h=>⟨av.out,h.1,h.2.1,h.2.2⟩,fun h=>⟨h.2.1,h.2.2.1,h.2.2.2⟩⟩
 have ac:=MY ac;clear ao
 cases hs:lP x t with
 |true=>
  have HH:=MY (HP.2 (ac.1 hs))
  clear hs
  go_wp2_with fail
  refine bodyPost_ret (v:= .int .i64 0) (by simp[results,results7,go_sem]) rfl ⟨B4.out,0,rfl,⟨fun _=>HH.out,fun _=>rfl⟩⟩
 |false=>
  have HH:=MY (show ¬P from fun h=>by have:=ac.2 (HP.1 h);rw[hs]at this;cases this)
  clear hs
  go_wp2_with fail
  refine bodyPost_ret (v:= .int .i64 160) (by simp[results,results7,go_sem]) rfl ⟨B4.out,160,rfl,⟨fun h=>absurd h (by decide),fun h=>absurd h HH.out⟩⟩
def yH(w:World)(R:Int×Mst)(e:Ending)(w':World):Prop:=
 eB w w'/\((R.1=0/\∃uv wv,e=.returned (.tuple #[uv,wv,.int .i64 R.2.lead,.int .i64 0])/\aa w' w.heap.size 65 6 uv (R.2.uses.map eO)/\aa w' w.heap.size 69 2 wv (R.2.works.map fY))\/
  (R.1≠0/\e=.returned (.tuple #[.slice none 0 0,.slice none 0 0,.int .i64 0,.int .i64 R.1])))
def Hb(t:cT)(item plant day ab:Int)(neg:Bool)(n d)(w)(P:Prop)(hC:∀W,eB w W->Calls prog 7 #[.agg (aL t).toArray] W (gG W P))(hP:¬P) :Calls prog 11 #[.agg (aL t).toArray,.int .i64 item,.int .i64 plant,.int .i64 day,.int .i64 ab,.agg #[.bool neg,.string n,.string d]] w (fun e w'=>eB w w'/\∃k:Int,k≠0/\e=.returned (.tuple #[.slice none 0 0,.slice none 0 0,.int .i64 0,.int .i64 k])):=by
 have M:=Sep.new w;have HC:=MY hC;go_enter func11,ntmps11;go_wp2_with refine mz M fun M=>?_;refine(HC.out _ M.bel).mono ?_;rintro _ _ ⟨hb,k,rfl,hk⟩;have ac:¬k=0:=fun h=>hP (hk.1 h);replace M:=M.ext hb;go_wp2_with refine mz M fun M=>?_;exact mr M ⟨M.bel,k,ac,rfl⟩
def Hc(t:cT)(i p dy:Nat)(ag:Int)(neg:Bool)(n d)(w)(P:Prop)(c:List Int)(cd:cV)(hV:cW w t)(hT:Tab w)(hC:∀W,eB w W->Calls prog 7 #[.agg (aL t).toArray] W (gG W P))(hP:P)(hi:i<t.src.items.length)(be:t.src.items.length<=32)(hp:p<t.src.plants.length)(bg:t.src.plants.length<=8)(hd:dy<1024)(av:gI t.src ag=some c)(bd:c.length<=4000)(ar:ag<=9223372036854775807)(an:t.codes[i*8+p]? = some cd)(ao:cd.code.length<=4096) :Calls prog 11 #[.agg (aL t).toArray,.int .i64 (i:Int),.int .i64 (p:Int),.int .i64 (dy:Int),.int .i64 ag,.agg #[.bool neg,.string n,.string d]] w (yH w (if cd.code.isEmpty then(160,bL 0)else cG cd.code (c++[(dy:Int)]) neg n d 4096)):=by
 haveI:=Fct.mk hV.src;have M:=Sep.new w;have HC:=MY hC;have aA:=MY hP;have ax:=MY av;have b1:btw (i:Int) 0 ((t.src.items.length:Int)-1)=true:=by unfold btw;simp only[Ob,decide_eq_true_eq];omega
 have b2:btw (p:Int) 0 ((t.src.plants.length:Int)-1)=true:=by unfold btw;simp only[Ob,decide_eq_true_eq];omega
 have b3:btw (dy:Int) 0 1023=true:=by unfold btw;simp only[Ob,decide_eq_true_eq];omega
 have hz:Hid (0<=(i:Int)*8+(p:Int)/\t.codes[((i:Int)*8+(p:Int)).toNat]? = some cd):=⟨by omega,by rw[<-an];congr 1⟩
 obtain⟨fin,ad⟩:=nm (if cd.code.isEmpty then(160,bL 0)else cG cd.code (c++[(dy:Int)]) neg n d 4096);rw[ad];have ab:=MY ad;clear hC hP av ad;go_enter func11,ntmps11;go_wp2_with refine mz M fun M=>?_;refine(HC.out _ M.bel).mono ?_;rintro _ _ ⟨hb,k,rfl,hk⟩;obtain rfl:=hk.2 aA.out;replace M:=M.ext hb;clear hb hk;go_wp2_with refine mz M fun M=>?_;refine(ta t.src ag _ (hV.src.below M.bel) ar).mono ?_;rw[ax.out];rintro _ W3 ⟨hb,v,rfl,hv⟩;replace M:=M.ext hb;have B3:=MY M.bel;have e1:=M.g 0;have e2:=M.gx 1 9;have al:=hV.below M.bel;haveI:ah W3 t.cv cV 1 t.codes codeC:=⟨al.row,al.cl⟩
 haveI:ah W3 v Int 1 c af:=⟨hv,by omega⟩
 haveI ba:ah W3 cd.cv In 6 cd.code au:=⟨(al.code cd (Oc an)).1,by omega⟩
 replace M:=(Sep.new W3).nilR 3 1;have HT:=MY (fun W (h:eB W3 W)=>hT.below (B3.trans (h.mono B3.size)));clear hb hv al b1 b2 b3 an
 cases ac:cd.code.isEmpty
 case true=>
  have bc:cd.code.length=0:=by rw[List.isEmpty_iff.1 ac];rfl
  have hf:fin=(160,bL 0):=by rw[<-ab.out,ac];rfl
  subst hf;clear ac ab;go_wp2_with refine mz M fun M=>?_;exact mr M ⟨B3.trans (M.bel.mono B3.size),Or.inr ⟨by decide,rfl⟩⟩
 have bc:¬cd.code.length=0:=fun h=>by rw[List.length_eq_zero_iff.1 h]at ac;cases ac
 have hf:fin=cG cd.code (c++[(dy:Int)]) neg n d 4096:=by rw[<-ab.out,ac];rfl
 have HF:=MY hf;clear ac ab hf;have hL:([]++c.map af).length<=16777216:=by simp;omega
 go_wp2_with(first|refine mz M fun M=>?_|refine mp M fun M=>?_|refine mv M fun M=>?_|refine mN M fun _ _ _ _ M=>?_);have hw:=M.bel.size;refine(jE _ _ cd.code (c++[(dy:Int)]) neg n d 4096 _ (ba.1.below M.bel) ao (by rw[N9];exact M.own1.row) (by simp;omega) (by decide) (HT.out _ M.bel)).mono ?_;rintro _ _ ⟨hb,h⟩;replace M:=M.ext hb;have hs:=B3.size;have BW:=MY (B3.trans (M.bel.mono hs));have bb:=HF.out;subst bb;clear hb HF;rcases h with⟨h0,uv,wv,rfl,h1,h2⟩|⟨h0,rfl⟩
 ·replace h1:=MY (h1.less (Nv hs hw));replace h2:=MY (h2.less (Nv hs hw));replace h0:=MY h0;go_wp2_with refine mz M fun M=>?_;exact mr M ⟨BW.out,Or.inl ⟨h0.out,uv,wv,rfl,h1.out,h2.out⟩⟩
 replace h0:=MY h0;go_wp2_with refine mz M fun M=>?_;exact mr M ⟨BW.out,Or.inr ⟨h0.out,rfl⟩⟩
def Lz(W):(binOp .neq 32 (.slice none 0 0) (.slice none 0 0)).run prog W=.ok (.bool false) W:=by kernel_rfl
def uN(p:Addr)(m c:Nat)(W):(binOp .neq 32 (.slice (some p) m c) (.slice none 0 0)).run prog W=.ok (.bool true) W:=by kernel_rfl
def LA(W):(binOp .eql 32 (.slice none 0 0) (.slice none 0 0)).run prog W=.ok (.bool true) W:=by kernel_rfl
def LB(p:Addr)(m c:Nat)(W):(binOp .eql 32 (.slice (some p) m c) (.slice none 0 0)).run prog W=.ok (.bool false) W:=by kernel_rfl
def CyS(E:Nat->Nat->Bool)(n k:Nat)(v:Value):Prop:=(v=.slice none 0 0/\∀f,f<k->¬ ∃j,E f j=true/\dW E n f j)\/(∃A m c,v=.slice (some A) m c/\m<=2097152/\∃f,f<k/\∃j,E f j=true/\dW E n f j)
def LC(p:Prop)(w:World)(e:Ending)(w':World):Prop:=eB w w'/\∃(v:Value)(b:Bool),e=.returned (.tuple #[v,.bool b])/\(b=true<->p)
def LD(s)(w)(hS:ap w s)(ht:TypesOk s)(hT:Tab w):Calls prog 75 #[.agg (srcC s).toArray] w (LC (Cyc (jc s) s.items.length) w):=by
 have bs:(srcC s).toArray.size=8:=rfl;have bb:=MY (fun W (hW:eB w W)=>nJ s W (hS.below hW) (hT.below hW));have ag:=MY (fun W (hW:eB w W)=>yZ s W (hS.below hW) ht.2.2);have bl:=MY ht;have av:=hS.il;unfold BIG at av;obtain⟨n,hn⟩:=nm s.items.length;unfold tP at ag;rw[hn]at av ag⊢;obtain⟨E,hE⟩:=nm (jc s);rw[hE]at ag⊢;obtain⟨W1,be⟩:=nm (w.alloc (.cells (srcC s).toArray 31));have K1:=MY (Blk.new w (srcC s) 31);have B1:=MY (ak w (.cells (srcC s).toArray 31));rw[be]at K1 B1;clear hS ht hT hn hE;go_enter func75,ntmps75;go_wp2_with (refine wR 31 (ai K1.out) ?_);clear be;refine(bb.out W1 B1.out).mono ?_;rintro e w2 ⟨ao,k,rfl,hk⟩;obtain rfl:k=0:=hk.2 bl.out;have K2:=MY (K1.below ao K1.lt);have B2:=MY (B1.trans (ao.mono B1.size));clear ao hk K1 B1 bb;go_wp2_with (refine wR 31 (ai K2.out) ?_);refine(ag.out w2 B2.out).mono ?_;rintro e w3 ⟨bg,v,rfl,g,bo,rfl,ar,aA⟩;have B3:=MY (B2.trans (bg.mono B2.size));have bk:=MY (fun f (hf:f<n) V (hV:eB w3 V)=>Ly g n f E V (ar.below hV ar.lt) (fun j hj=>(aA j hj).below hV (aA j hj).lt) hf av);clear bg ar aA B2 K2 ag bo;go_wp2_with fail;go_loopw [2,14] (fun v z W=>∃k:Nat,k<=n/\z=.int .i64 k/\Hid (CyS E n k v)/\Hid (eB w3 W)) (fun _ z _=>n-(intOf z).toNat)
 case atStart=>exact⟨0,Nu _,rfl,.inl ⟨rfl,fun f h=>by omega⟩,NB _ _⟩
 case round=>
  obtain⟨k,hk,rfl,HC,HB⟩:=hrel;have n0:=Lz;have e0:=LA;by_cases bp:k<n
  case neg=>
   obtain rfl:n=k:=by omega
   rcases HC.out with⟨rfl,h1⟩|⟨A,m,c,rfl,hm,f,hf,hj⟩
   ·have bi:Hid (¬Cyc E n):=fun⟨f,j,hf,h2,h3⟩=>h1 f hf ⟨j,h2,h3⟩;clear h1;go_wp2_with fail;refine bodyPost_ret (v:= .tuple #[.slice none 0 0,.bool false]) (by simp[results,results75,go_sem]) rfl ⟨B3.trans (HB.mono B3.size),_,false,rfl,⟨fun h=>absurd h (by decide),fun h=>absurd h bi.out⟩⟩
   ·have an:Hid (Cyc E n):=by obtain⟨j,h2,h3⟩:=hj;exact⟨f,j,hf,h2,h3⟩
    have n1:=uN A m c;clear hj;go_wp2_with fail;refine bodyPost_ret (v:= .tuple #[.slice (some A) m c,.bool true]) (by simp[results,results75,go_sem]) rfl ⟨B3.trans (HB.mono B3.size),_,true,rfl,⟨fun _=>an.out,fun _=>rfl⟩⟩
  have ba:=MY (bk.out k bp wr HB.out);have bc:Hid (∀v,CyS E n k v->¬(∃j,E k j=true/\dW E n k j)->CyS E n (k+1) v):=by
   rintro v (⟨rfl,h1⟩|⟨A,m,c,rfl,hm,f,hf,hj⟩) br
   ·exact .inl ⟨rfl,fun f hf=>by
     by_cases e:f=k
     ·subst e;exact br
     ·exact h1 f (by omega)⟩
   ·exact .inr ⟨A,m,c,rfl,hm,f,by omega,hj⟩
  have bd:Hid (∀A m c,m<=2097152->(∃j,E k j=true/\dW E n k j)->CyS E n (k+1) (.slice (some A) m c)):=fun A m c hm hp=> .inr ⟨A,m,c,rfl,hm,k,by omega,hp⟩;have bm:Hid (∀A m c,CyS E n k (.slice (some A) m c)->CyS E n (k+1) (.slice (some A) m c)):=by
   rintro A m c (⟨h,_⟩|⟨A',m',c',e,hm,f,hf,hj⟩)
   ·cases h
   ·exact .inr ⟨A',m',c',e,hm,f,by omega,hj⟩
  rcases HC.out with⟨rfl,h1⟩|⟨A,m,c,rfl,hm,bn⟩
  ·clear h1;go_wp2_with fail;refine ba.mono ?_;rintro e w4 ⟨ab,(⟨rfl,al⟩|⟨hp,A',m',c',rfl,ax⟩)⟩
   ·have ad:=MY (bc.out _ HC.out al);have ac:=MY (HB.trans (ab.mono HB.size));clear ab al;go_wp2;go_roundw
    case rel=>exact⟨k+1,by omega,by go_num,ad.out,ac.out⟩
    case measure=>simp[intOf];omega
   ·have ad:=MY (bd.out A' m' c' ax hp);have ac:=MY (HB.trans (ab.mono HB.size));have n1:=uN A' m' c';clear ab hp;go_wp2;go_roundw
    case rel=>exact⟨k+1,by omega,by go_num,ad.out,ac.out⟩
    case measure=>simp[intOf];omega
  ·clear bn;have e1:=LB A m c;go_wp2_with fail;refine ba.mono ?_;rintro e w4 ⟨ab,(⟨rfl,al⟩|⟨hp,A',m',c',rfl,ax⟩)⟩
   ·have ad:=MY (bc.out _ HC.out al);have ac:=MY (HB.trans (ab.mono HB.size));clear ab al;go_wp2;go_roundw
    case rel=>exact⟨k+1,by omega,by go_num,ad.out,ac.out⟩
    case measure=>simp[intOf];omega
   ·have bh:=MY (bm.out A m c HC.out);have ad:=MY (bd.out A' m' c' ax hp);have ac:=MY (HB.trans (ab.mono HB.size));have n1:=uN A' m' c';clear ab hp;by_cases hl:m'<m
    ·have t1:decide ((m':Int)<(m:Int))=true:=by simpa using hl
     go_wp2;go_roundw
     case rel=>exact⟨k+1,by omega,by go_num,ad.out,ac.out⟩
     case measure=>simp[intOf];omega
    ·have t1:decide ((m':Int)<(m:Int))=false:=by simpa using hl
     go_wp2;go_roundw
     case rel=>exact⟨k+1,by omega,by go_num,bh.out,ac.out⟩
     case measure=>simp[intOf];omega
section
attribute [local go_sem] Oper.semAt_some
def jP(s:SrcR):Prop:=∀r∈s.recs,∃d,jO s r=some d/\d.2=false
def LL(k:Int)(w):Calls prog 203 #[.iface 360 (.agg #[.int .i64 k])] w (Ret w (.int .i64 k)):=by
 have ab:∀W:World,(Instr.typeAssert (.iface 360 (.agg #[.int .i64 k])) 20 360 true).run prog W=.ok (.tuple #[.agg #[.int .i64 k],.bool true]) W:=fun W=>by kernel_rfl
 go_enter func203,ntmps203;go_wp2;go_ret;exact⟨rfl,(NB _ _).alloc (No _) _⟩
def LM(s)(w):Calls prog 204 #[.agg (srcC s).toArray] w fun e w'=>e=.returned (.func (.func 244) #[] #[.pointer w.heap.size])/\w.alloc (.cells (srcC s).toArray 31)=w':=by
 have ac:=mF;have ad:(srcC s).toArray.size=8:=rfl;obtain⟨W1,ab⟩:=nm (w.alloc (.cells (srcC s).toArray 31));go_enter func204,ntmps204;go_wp2;go_ret;exact⟨rfl,ab⟩
def LN(nn:Nat)(a b c d:Nat)(w) :CallsDIn Fence.wide nn prog 202 #[.pointer a,.pointer b,.pointer c,.pointer d] .returning w fun e u' w'=>e=.returned (.tuple #[])/\u'=.returning/\w'=w:=by
 refine callsDIn_of_wpSIn func202 rfl trivial fun c₀ cs hu=>?_;apply wpSIn_seq;apply wpSIn_region;simp[wpOpsSIn,go_sem,recoverD,hu,ntmps202,Exit.thenS];refine wpSIn_of_wpIn rfl ?_;simp only[NZ,N0,N1,N2,M9,MZ,NY,OB,OC];refine wpIn_wide.2 ?_;go_wp2
 cases c₀;simp_all [bodyPostS,results,results202]
def LO(nn:Nat)(a b c d D:Nat)(k:Int)(x0 y0 y1 y2 z0 v0)(w)(ha:Blk w a [x0] 3)(hb:Blk w b [y0,y1,y2] 37)(hc:Blk w c [z0] 4)(hd:Blk w d [v0] 41)(ac:a<b)(ad:b<c)(ag:c<d)(hD:D<=a) :CallsDIn Fence.wide nn prog 202 #[.pointer a,.pointer b,.pointer c,.pointer d] (.panicking (iI k)) w fun e u' w'=>e=.returned (.tuple #[])/\u'=.panicking [{v:= .iface 360 (.agg #[.int .i64 k]),recovered:=true}]/\Blk w' a [.int .i64 0] 3/\Blk w' b [.bool false,.string ⟨#[]⟩,.string ⟨#[]⟩] 37/\Blk w' c [.bool false] 4/\Blk w' d [.int .i64 k] 41/\Below D w w':=by
 refine callsDIn_of_wpSIn func202 rfl trivial fun c₀ cs hu=>?_;unfold iI at hu;apply wpSIn_seq;apply wpSIn_region;simp[wpOpsSIn,go_sem,recoverD,hu,ntmps202,Exit.thenS];refine wpSIn_of_wpIn rfl ?_;simp only[NZ,N0,N1,N2,M9,MZ,NY,OB,OC];refine wpIn_wide.2 ?_;go_wp2_with fail;refine(LL k _).mono ?_;rintro e w1 ⟨rfl,ab⟩;have A1:=MY (ha.below ab ha.lt);have B1:=MY (hb.below ab hb.lt);have C1:=MY (hc.below ab hc.lt);have D1:=MY (hd.below ab hd.lt);have HB:=MY (ab.mono (show D<=w.heap.size from Nv hD (NS ha.lt)));obtain⟨q0,f0⟩:=A1.at 0 _ rfl;obtain⟨q1,f1⟩:=B1.at 0 _ rfl;obtain⟨q2,f2⟩:=B1.at 1 _ rfl;obtain⟨q3,f3⟩:=B1.at 2 _ rfl;obtain⟨q4,f4⟩:=C1.at 0 _ rfl;obtain⟨q5,f5⟩:=D1.at 0 _ rfl;have n1:¬a=b:=by omega
 have n2:¬a=c:=by omega
 have n3:¬a=d:=by omega
 have n4:¬b=c:=by omega
 have n5:¬b=d:=by omega
 have n6:¬c=d:=by omega
 have m1:¬b=a:=by omega
 have m2:¬c=a:=by omega
 have m3:¬d=a:=by omega
 have m4:¬c=b:=by omega
 have m5:¬d=b:=by omega
 have m6:¬d=c:=by omega
 have s1:D<=b:=by omega
 have s2:D<=c:=by omega
 have s3:D<=d:=by omega
 go_wp2;simp only[bodyPostS,results,results202];simp[go_sem];refine⟨?_,?_,?_,?_,?_⟩
 ·exact(((((A1.set 0 _).other n1 _).other n1 _).other n1 _).other n2 _).other n3 _
 ·exact(((((B1.other m1 _).set 0 _).set 1 _).set 2 _).other n4 _).other n5 _
 ·exact(((((C1.other m2 _).other m4 _).other m4 _).other m4 _).set 0 _).other n6 _
 ·exact(((((D1.other m3 _).other m5 _).other m5 _).other m5 _).other m6 _).set 0 _
 ·exact(((((HB.setCell (p:=⟨a,0,none⟩) hD _).setCell (p:=⟨b,0,none⟩) s1 _).setCell (p:=⟨b,1,none⟩) s1 _).setCell (p:=⟨b,2,none⟩) s1 _).setCell (p:=⟨c,0,none⟩) s2 _).setCell (p:=⟨d,0,none⟩) s3 _
def Bb(a b c d:Nat)(W)(tmps:Array Value)(x y0 y1 y2 z v)(h2:tmps.getD 2 undef=.pointer a)(h3:tmps.getD 3 undef=.pointer b)(h4:tmps.getD 4 undef=.pointer c)(h5:tmps.getD 5 undef=.pointer d)(k2:Blk W a [x] 3)(k3:Blk W b [y0,y1,y2] 37)(k4:Blk W c [z] 4)(k5:Blk W d [v] 41) :(results Tryz.f126 tmps).run prog W=.ok (.tuple #[x,.agg #[y0,y1,y2],z,v]) W:=by
 rw[Ow]at h2 h3 h4 h5;have r2:=(k2.at 0 _ rfl).1;obtain⟨ab,ac,ad⟩:=dc k3;have r4:=(k4.at 0 _ rfl).1;have r5:=(k5.at 0 _ rfl).1;simp[results,results126,go_sem,h2,h3,h4,h5,r2,ab,ac,ad,r4,r5]
section
variable {w Wf:World} {D a b c d:Nat} {tmps:Array Value} {R:Ending->World->Prop} {x y0 y1 y2 z v:Value}
def Bc(h2:tmps.getD 2 undef=.pointer a)(h3:tmps.getD 3 undef=.pointer b)(h4:tmps.getD 4 undef=.pointer c)(h5:tmps.getD 5 undef=.pointer d)(k2:Blk Wf a [x] 3)(k3:Blk Wf b [y0,y1,y2] 37)(k4:Blk Wf c [z] 4)(k5:Blk Wf d [v] 41)(hR:R (.returned (.tuple #[x,.agg #[y0,y1,y2],z,v])) Wf) :LeavesInM Fence.wide 9 prog Tryz.f126 tmps R [{target:= .fn (.func 202) #[.pointer a,.pointer b,.pointer c,.pointer d],args:=#[]}] .returning Wf:=by
 refine⟨by simp,.inr ⟨fun e=>by simp[Fence.wide]at e,_,_,202,#[.pointer a,.pointer b,.pointer c,.pointer d],rfl,by simp[go_sem],fun _ _=>trivial,?_⟩⟩;refine(LN _ _ _ _ _ _).mono ?_;rintro e u' w'' ⟨rfl,rfl,rfl⟩;exact⟨_,Bb a b c d _ _ x y0 y1 y2 z v h2 h3 h4 h5 k2 k3 k4 k5,hR⟩
def LP{k:Int}(h2:tmps.getD 2 undef=.pointer a)(h3:tmps.getD 3 undef=.pointer b)(h4:tmps.getD 4 undef=.pointer c)(h5:tmps.getD 5 undef=.pointer d)(k2:Blk Wf a [x] 3)(k3:Blk Wf b [y0,y1,y2] 37)(k4:Blk Wf c [z] 4)(k5:Blk Wf d [v] 41)(ab:a<b)(ac:b<c)(ad:c<d){N:Nat}(hN:N<=a)(hR:∀W',Below N Wf W'->R (.returned (.tuple #[.int .i64 0,.agg #[.bool false,.string ⟨#[]⟩,.string ⟨#[]⟩],.bool false,.int .i64 k])) W') :LeavesInM Fence.wide 9 prog Tryz.f126 tmps R [{target:= .fn (.func 202) #[.pointer a,.pointer b,.pointer c,.pointer d],args:=#[]}] (.panicking (iI k)) Wf:=by
 refine⟨by simp,.inr ⟨fun e=>by simp[Fence.wide]at e,_,_,202,#[.pointer a,.pointer b,.pointer c,.pointer d],rfl,by simp[go_sem],fun _ _=>trivial,?_⟩⟩;refine(LO _ a b c d N k x y0 y1 y2 z v Wf k2 k3 k4 k5 ab ac ad hN).mono ?_;rintro e u' w'' ⟨rfl,rfl,j2,j3,j4,j5,hb⟩;exact⟨_,Bb a b c d _ _ _ _ _ _ _ _ h2 h3 h4 h5 j2 j3 j4 j5,hR _ hb⟩
end
def WrP(w:World)(p:Prop)(e:Ending)(w':World):Prop:=eB w w'/\∃(i:Int)(ok:Bool) (k:Int) (g:Bool) (a b:ByteArray),e=.returned (.tuple #[.int .i64 i,.agg #[.bool g,.string a,.string b],.bool ok,.int .i64 k])/\((k=0/\ok=false)<->p)
structure WrI(w W:World)(h:Nat)(x y0 y1 y2 z v:Value):Prop where
 bl:eB w W
 b2:Blk W (h+1) [x] 3
 b3:Blk W (h+1+1) [y0,y1,y2] 37
 b4:Blk W (h+1+1+1) [z] 4
 b5:Blk W (h+1+1+1+1) [v] 41
def WrI.grown{w W W'}{h:Nat}{x y0 y1 y2 z v}{row:Option Nat}(H:WrI w W h x y0 y1 y2 z v)(hg:W.grownBy W' row)(hr:∀r,row=some r->h+1+1+1+1<r)(hw:w.heap.size<=h):WrI w W' h x y0 y1 y2 z v:=
 ⟨H.bl.grown hg H.bl.size (fun k e=>by have:=hr k e;omega),H.b2.grown hg (fun e=>by have:=hr _ e.symm;omega),H.b3.grown hg (fun e=>by have:=hr _ e.symm;omega),H.b4.grown hg (fun e=>by have:=hr _ e.symm;omega),H.b5.grown hg (fun e=>by have:=hr _ e.symm;omega)⟩
def WrI.put{w W}{h D:Nat}{x y0 y1 y2 z v}{o:Obj}(H:WrI w W h x y0 y1 y2 z v)(hr:h+1+1+1+1<D)(hw:w.heap.size<=h):WrI w (W.putObj D o) h x y0 y1 y2 z v:=
 H.grown (grownBy_putObj' W D o) (fun r e=>by cases e;exact hr) hw
def mA(W:World)(h:Nat)(x y0 y1 y2 z v:Value):World:=(((((W.setCell ⟨h+1,0,none⟩ x).setCell ⟨h+1+1,0,none⟩ y0).setCell ⟨h+1+1,1,none⟩ y1).setCell ⟨h+1+1,2,none⟩ y2).setCell ⟨h+1+1+1,0,none⟩ z).setCell ⟨h+1+1+1+1,0,none⟩ v
def WrI.stores{w W}{h:Nat}{x y0 y1 y2 z v}(H:WrI w W h x y0 y1 y2 z v)(hw:w.heap.size<=h)(x' y0' y1' y2' z' v'):WrI w (mA W h x' y0' y1' y2' z' v') h x' y0' y1' y2' z' v':=by
 have e1:w.heap.size<=h+1:=by omega
 have e2:w.heap.size<=h+1+1:=by omega
 have e3:w.heap.size<=h+1+1+1:=by omega
 have e4:w.heap.size<=h+1+1+1+1:=by omega
 have n1:h+1≠h+1+1:=by omega
 have n2:h+1≠h+1+1+1:=by omega
 have n3:h+1≠h+1+1+1+1:=by omega
 have n4:h+1+1≠h+1+1+1:=by omega
 have n5:h+1+1≠h+1+1+1+1:=by omega
 have n6:h+1+1+1≠h+1+1+1+1:=by omega
 refine⟨?_,?_,?_,?_,?_⟩
 ·exact(((((H.bl.setCell (p:=⟨h+1,0,none⟩) e1 _).setCell (p:=⟨h+1+1,0,none⟩) e2 _).setCell (p:=⟨h+1+1,1,none⟩) e2 _).setCell (p:=⟨h+1+1,2,none⟩) e2 _).setCell (p:=⟨h+1+1+1,0,none⟩) e3 _).setCell (p:=⟨h+1+1+1+1,0,none⟩) e4 _
 ·exact(((((H.b2.set 0 _).other n1 _).other n1 _).other n1 _).other n2 _).other n3 _
 ·exact(((((H.b3.other n1.symm _).set 0 _).set 1 _).set 2 _).other n4 _).other n5 _
 ·exact(((((H.b4.other n2.symm _).other n4.symm _).other n4.symm _).other n4.symm _).set 0 _).other n6 _
 ·exact(((((H.b5.other n3.symm _).other n5.symm _).other n5.symm _).other n5.symm _).other n6.symm _).set 0 _
def rc(W):KeepsOthers W W.drew:=KeepsOthers.of_grownBy (row:=none) ⟨rfl,rfl,rfl,No _,fun _ _ _=>rfl⟩ (fun j o e _=>by cases e)
def LQ(W)(h:Nat)(x y0 y1 y2 z v):KeepsOthers W (mA W h x y0 y1 y2 z v).drew:=
 KeepsOthers.trans (KeepsOthers.trans (KeepsOthers.trans (KeepsOthers.trans (KeepsOthers.trans (KeepsOthers.trans (Oa W _ x) (Oa _ _ y0)) (Oa _ _ y1)) (Oa _ _ y2)) (Oa _ _ z)) (Oa _ _ v))
  (rc _)
def WrI.below{w W W'}{h:Nat}{x y0 y1 y2 z v}(H:WrI w W h x y0 y1 y2 z v)(hb:eB W W'):WrI w W' h x y0 y1 y2 z v:=
 ⟨H.bl.trans (hb.mono H.bl.size),H.b2.below hb H.b2.lt,H.b3.below hb H.b3.lt,H.b4.below hb H.b4.lt,H.b5.below hb H.b5.lt⟩
def LR(s)(w)(hS:ap w s)(ht:TypesOk s)(hT:Tab w):Calls prog 126 #[.agg (srcC s).toArray] w (WrP w (jP s)):=by
 have bk:=mF;have bm:(srcC s).toArray.size=8:=rfl;have HT:=MY hT;have HS:=MY hS;have bb:=MY ht;have bd:=MY (fun W (hW:eB w W)=>nJ s W (hS.below hW) (hT.below hW));obtain⟨h,hh⟩:=nm w.heap.size;obtain⟨W1,av⟩:=nm (((((w.alloc (.cells (srcC s).toArray 31)).alloc (.cells #[.int .i64 0] 3)).alloc (.cells #[.bool false,.string ⟨#[]⟩,.string ⟨#[]⟩] 37)).alloc (.cells #[.bool false] 4)).alloc (.cells #[.int .i64 0] 41));have K1:Hid (Blk W1 h (srcC s) 31):=by
  rw[<-av,<-hh];exact((((Blk.new w (srcC s) 31).alloc (.cells #[.int .i64 0] 3)).alloc (.cells #[.bool false,.string ⟨#[]⟩,.string ⟨#[]⟩] 37)).alloc (.cells #[.bool false] 4)).alloc (.cells #[.int .i64 0] 41)
 have I1:Hid (WrI w W1 h (.int .i64 0) (.bool false) (.string ⟨#[]⟩) (.string ⟨#[]⟩) (.bool false) (.int .i64 0)):=by
  rw[<-av,<-hh];have e0:=Blk.new (w.alloc (.cells (srcC s).toArray 31)) [.int .i64 0] 3;have e1:=Blk.new ((w.alloc (.cells (srcC s).toArray 31)).alloc (.cells #[.int .i64 0] 3)) [.bool false,.string ⟨#[]⟩,.string ⟨#[]⟩] 37;have e2:=Blk.new (((w.alloc (.cells (srcC s).toArray 31)).alloc (.cells #[.int .i64 0] 3)).alloc (.cells #[.bool false,.string ⟨#[]⟩,.string ⟨#[]⟩] 37)) [.bool false] 4;have e3:=Blk.new ((((w.alloc (.cells (srcC s).toArray 31)).alloc (.cells #[.int .i64 0] 3)).alloc (.cells #[.bool false,.string ⟨#[]⟩,.string ⟨#[]⟩] 37)).alloc (.cells #[.bool false] 4)) [.int .i64 0] 41;simp only[NU]at e0 e1 e2 e3;refine⟨?_,((e0.alloc _).alloc _).alloc _,(e1.alloc _).alloc _,e2.alloc _,e3⟩;exact(((((NB w.heap.size w).alloc (No _) _).alloc (by simp) _).alloc (by simp;omega) _).alloc (by simp;omega) _).alloc (by simp;omega) _
 have HH:Hid (w.heap.size<=h):=by show _<=_;omega
 clear hS ht hT;refine(callsIn_wide (n:=9)).1 ?_;refine callsIn_of_wp_marks func126 rfl trivial ?_ rfl;refine wpIn_wide.2 ?_;simp only[ntmps126,NV,M6,ND,Nat.reduceAdd,Nat.reduceSub,NZ,N0,N1,N2,M9,MZ];go_wp2_with (refine wR 31 (ai K1.out) ?_);refine(bd.out W1 I1.bl).mono ?_;rintro e w2 ⟨aA,k,rfl,hk⟩;obtain rfl:k=0:=hk.2 bb.out;have I2:=MY (I1.below aA);have K2:=MY (K1.below aA K1.lt);clear aA hk av I1 K1;obtain⟨W3,ax⟩:=nm (w2.alloc (.cells (srcC s).toArray 31));have I3:=MY (I2.below (ak w2 (.cells (srcC s).toArray 31)));have M3:=MY (Blk.new w2 (srcC s) 31);obtain⟨mb,ba⟩:=nm w2.heap.size;rw[ax]at I3 M3;rw[ba]at M3;have HD:=MY (LM s w2);rw[ax,ba]at HD;go_wp2_with (first|(refine wR 31 (ai K2.out) ?_)|(go_at_call 204;refine HD.mono ?_;rintro e w1 ⟨rfl,rfl⟩));clear ax ba HD;refine(wpIn_wide (n:=9)).1 ?_;have bi:h+1+1+1+1<W3.heap.size:=I3.b5.lt;refine' qX (x:= .ret) (pc:= .ret) (.inl ⟨rfl,rfl⟩) rfl (by omega) (gf:=244) (lb:=#[.pointer mb]) rfl trivial (enters_of func244 (by kernel_rfl) rfl) (encs:=dvE) (T:=31) (S:=ra s s.recs.length) (Sx:=uQ s) (G:=fun c _=>uR s c) (N:=1048577) (w0:=W3) (A:=fun _=>True) (Kp:=KpB W3.heap.size) (fun h k=>h.trans k) (fun h=>KpB.grown h) (fun V l o o' hl _ _=>KpB.put o' hl)
  (fun l J Jx W hW _ hJ hY h0=>LK 8 l mb s W3 W J Jx (HS.below I3.bl) bb.out M3.out (HT.below I3.bl) hW hJ hY h0) trivial (fun _ _ _=>trivial) (NB _ _) (fun _=>rfl)
  (fun pre W=>WrI w W h (.int .i64 0) (.bool false) (.string ⟨#[]⟩) (.string ⟨#[]⟩) (.bool false) (.int .i64 0)/\∀x∈pre,x.2.2=false)
  (fun xs W=>∃(i:Int)(g:Bool) (a b:ByteArray),WrI w W h (.int .i64 i) (.bool g) (.string a) (.string b) (.bool true) (.int .i64 0)/\∃pre x,xs=pre++[x]/\x.2.2=true)
  ?hI ?hIx ⟨I3.out,fun _ h=>by simp at h⟩ (fun x a' W=>∃Bx,Blk W Bx (kQ x.2) 312/\a'={tmps:=#[.agg (srcC s).toArray,.pointer (some ⟨h,0,none⟩),.pointer (some ⟨h+1,0,none⟩),.pointer (some ⟨h+1+1,0,none⟩),.pointer (some ⟨h+1+1+1,0,none⟩),.pointer (some ⟨h+1+1+1+1,0,none⟩),.int .i64 0,.int .i64 (x.1:Int),.pointer (some ⟨Bx,0,none⟩),.agg (srcC s).toArray,.int .i64 0,.int .i64 0,.bool false,undef,undef,.func (.func 202) #[] #[.pointer (some ⟨h+1,0,none⟩),.pointer (some ⟨h+1+1,0,none⟩),.pointer (some ⟨h+1+1+1,0,none⟩),.pointer (some ⟨h+1+1+1+1,0,none⟩)],.agg (srcC s).toArray,.func (.func 244) #[] #[.pointer mb],.int .i64 (x.1:Int),.agg (kQ x.2).toArray,undef,undef,undef,undef,undef,undef],defers:=[]}) ?hAx ?assign ?body ?done ?stop ?pan
 case hI=>
  rintro pre A C row ⟨h1,h2⟩ hg hr;exact⟨h1.grown hg (fun r e=>by have:=(hr r e).1;omega) HH.out,h2⟩
 case hIx=>
  rintro pre A C row ⟨i,y0,y1,y2,h1,h2⟩ hg hr;exact⟨i,y0,y1,y2,h1.grown hg (fun r e=>by have:=(hr r e).1;omega) HH.out,h2⟩
 case hAx=>
  rintro x a' _ A C row ⟨Bx,h1,h2⟩ hg hr;refine⟨Bx,h1.grown hg (fun e=>?_),h2⟩;obtain⟨_,o,ho,bg⟩:=hr _ e.symm;have be:A.heap[Bx]? = some (.cells _ _ _):=h1;rw[be]at ho
  cases ho;simp[Obj.isCells]at bg
 case assign=>
  intro l x W K hK;unfold dvE kQ;gi_wp2;exact hK _ _ (ON W _ none) ⟨W.heap.size,Blk.new W (kQ x.2) _,rfl⟩
 case body=>
  rintro l pre x a' W ⟨h1,h2⟩ ⟨Bx,al,rfl⟩ hp;have ag:Hid (Blk W Bx [.bool x.2.1.neg,.string (bs x.2.1.n),.string (bs x.2.1.d),.bool x.2.2] 312):=al;obtain⟨i,⟨r,wr⟩⟩:=x;simp only at ag;have n1:¬Bx=h+1:=fun e=>by have:=h1.b2;rw[<-e]at this;have h':=al.symm.trans this;injection h' with h';injection h' with _ h' _;revert h';decide
  have n2:¬Bx=h+1+1:=fun e=>by have:=h1.b3;rw[<-e]at this;have h':=al.symm.trans this;injection h' with h';injection h' with _ h' _;revert h';decide
  have n3:¬Bx=h+1+1+1:=fun e=>by have:=h1.b4;rw[<-e]at this;have h':=al.symm.trans this;injection h' with h';injection h' with _ h' _;revert h';decide
  have n4:¬Bx=h+1+1+1+1:=fun e=>by have:=h1.b5;rw[<-e]at this;have h':=al.symm.trans this;injection h' with h';injection h' with _ h' _;revert h';decide
  have b0:=(ag.at 0 _ rfl).1;have b1:=(ag.at 1 _ rfl).1;have b2:=(ag.at 2 _ rfl).1;have b3:=(ag.at 3 _ rfl).1;obtain⟨q1,f1⟩:=h1.b2.at 0 _ rfl;obtain⟨br,f20⟩:=h1.b3.at 0 _ rfl;obtain⟨bt,f21⟩:=h1.b3.at 1 _ rfl;obtain⟨bu,f22⟩:=h1.b3.at 2 _ rfl;obtain⟨q3,f3⟩:=h1.b4.at 0 _ rfl;obtain⟨q4,f4⟩:=h1.b5.at 0 _ rfl;have H1:=MY h1;have H2:=MY h2;clear h1 h2 al ag
  cases wr with
  |false=>
   gi_wp2
   refine⟨KeepsOthers.refl _,aI.refl _ _,fun _=>NB _ _,H1.out,fun x hx=>?_⟩
   rcases Of.1 hx with hx|hx
   ·exact H2.out x hx
   ·rw[Oi]at hx;subst hx;rfl
  |true=>
   gi_wp2_with fail
   refine pp (S:=fun w'=>w'.cell? ⟨Bx,0,none⟩=some (.bool r.neg)/\w'.cell? ⟨Bx,1,none⟩=some (.string (bs r.n))/\w'.cell? ⟨Bx,2,none⟩=some (.string (bs r.d))) [0,1,2,1003,1004,1005,1006] (by kernel_rfl) (by kernel_rfl) (by kernel_rfl) ⟨b0,b1,b2⟩ (fun ab=>?_)
   repeat refine ay ?_
   refine az fun K hK=>?_
   go_simp
   refine hK.out _ _ ?_ (fun ab=>?_)
   ·(try dsimp only)
    (refine⟨?_,?_,?_⟩ <;> (go_simp;try(first|exact b0|exact b1|exact b2)))
   clear hK K
   try simp only[PT]
   refine az fun K hK=>?_
   go_simp
   refine hK.out _ _ ?_ (fun ab=>?_)
   ·(try dsimp only)
    (refine⟨?_,?_,?_⟩ <;> (go_simp;try(first|exact b0|exact b1|exact b2)))
   clear hK K
   try simp only[PT]
   refine az fun K hK=>?_
   go_simp
   refine hK.out _ _ ?_ (fun ab=>?_)
   ·(try dsimp only)
    (refine⟨?_,?_,?_⟩ <;> (go_simp;try(first|exact b0|exact b1|exact b2)))
   clear hK K
   try simp only[PT]
   refine az fun K hK=>?_
   go_simp
   refine hK.out _ _ ?_ (fun ab=>?_)
   ·(try dsimp only)
    (refine⟨?_,?_,?_⟩ <;> (go_simp;try(first|exact b0|exact b1|exact b2)))
   clear hK K
   try simp only[PT]
   refine aj ?_
   apply_assumption
   gi_wp2
   refine⟨rfl,?_,(i:Int),r.neg,bs r.n,bs r.d,?_,pre,(i,(r,true)),rfl,rfl⟩
   ·exact LQ W h _ _ _ _ _ _
   ·have:=H1.stores HH.out (.int .i64 (i:Int)) (.bool r.neg) (.string (bs r.n)) (.string (bs r.d)) (.bool true) (.int .i64 0)
    exact⟨this.bl.drew,this.b2.drew,this.b3.drew,this.b4.drew,this.b5.drew⟩
 case done=>
  rintro D xs W hD ar ⟨h1,h2⟩ hK;obtain⟨p1,f1⟩:=h1.b2.at 0 _ rfl;obtain⟨bn,f20⟩:=h1.b3.at 0 _ rfl;obtain⟨bo,f21⟩:=h1.b3.at 1 _ rfl;obtain⟨bp,f22⟩:=h1.b3.at 2 _ rfl;obtain⟨p3,f3⟩:=h1.b4.at 0 _ rfl;obtain⟨p4,f4⟩:=h1.b5.at 0 _ rfl;have ac:h+1+1+1+1<D:=by omega
  have H1:=MY h1;have HP:Hid (jP s):=by
   show jP s;intro r hr;obtain⟨i,hi⟩:=List.getElem?_of_mem hr;obtain⟨d,hd,e⟩:=ar.2 i r (NQ.1 hi).1 hi;exact⟨d,e,h2 _ (Oc hd)⟩
  clear h1 h2 ar;have ad:=MY ((H1.stores HH.out (.int .i64 0) (.bool false) (.string ⟨#[]⟩) (.string ⟨#[]⟩) (.bool false) (.int .i64 0)).put (D:=D) (o:= .deferred none) ac HH.out);have bc:Hid ((mA W h (.int .i64 0) (.bool false) (.string ⟨#[]⟩) (.string ⟨#[]⟩) (.bool false) (.int .i64 0)).heap[D]? = some (.deferred (some []))):=by
   show(mA W h (.int .i64 0) (.bool false) (.string ⟨#[]⟩) (.string ⟨#[]⟩) (.bool false) (.int .i64 0)).heap[D]? = _;unfold mA;refine(NF _ _ _ _ ?_).trans ((NF _ _ _ _ ?_).trans ((NF _ _ _ _ ?_).trans ((NF _ _ _ _ ?_).trans ((NF _ _ _ _ ?_).trans ((NF _ _ _ _ ?_).trans hK))))) <;> (simp only;omega)
  clear hK;unfold mA at ad bc;go_wp2;refine⟨by simp,.inl ⟨_,_,rfl,run_takeDeferred bc.out,?_⟩⟩;exact Bc rfl rfl rfl rfl ad.b2 ad.b3 ad.b4 ad.b5 ⟨ad.bl,0,false,0,false,⟨#[]⟩,⟨#[]⟩,rfl,⟨fun _=>HP.out,fun _=>⟨rfl,rfl⟩⟩⟩
 case stop=>
  rintro D xs W hD ao ⟨i,y0,y1,y2,h1,pre,x,hx,hw⟩ hK;have ac:h+1+1+1+1<D:=by omega
  have HP:Hid (¬jP s):=by
   show ¬jP s;intro hb;obtain⟨bh,i',r,d,e,hi,hd⟩:=ao;rw[e]at hx;obtain⟨_,e2⟩:=List.append_inj' hx rfl
   cases e2;obtain⟨d',an,hf⟩:=hb r (Oc hi);rw[hd]at an
   cases an;rw[hf]at hw
   cases hw
  have H1:=MY (h1.put (D:=D) (o:= .deferred none) ac HH.out);clear h1 ao hx;gi_wp2;refine⟨by simp,.inl ⟨_,_,rfl,run_takeDeferred hK,?_⟩⟩;exact Bc rfl rfl rfl rfl H1.b2 H1.b3 H1.b4 H1.b5 ⟨H1.bl,i,true,0,y0,y1,y2,rfl,⟨fun h=>absurd h.2 (by decide),fun h=>absurd h HP.out⟩⟩
 case pan=>
  rintro D c xs W hD ⟨rfl,r,hr,hd⟩ ⟨h1,h2⟩ hK;have ac:h+1+1+1+1<D:=by omega
  have HP:Hid (¬jP s):=fun hb=>by
   obtain⟨d',an,_⟩:=hb r hr;rw[hd]at an
   cases an
  have H1:=MY (h1.put (D:=D) (o:= .deferred none) ac HH.out);clear h1 h2;refine⟨by simp,.inl ⟨_,_,rfl,run_takeDeferred hK,?_⟩⟩;exact LP rfl rfl rfl rfl H1.b2 H1.b3 H1.b4 H1.b5 (by omega) (by omega) (by omega) (N:=w.heap.size) (by have:=HH.out;omega) (fun W' hb=>⟨H1.bl.trans hb,_,false,2,_,_,_,rfl,⟨fun h=>absurd h.1 (by decide),fun h=>absurd h HP.out⟩⟩)
def LS(s)(w)(hS:ap w s)(ht:TypesOk s)(hT:Tab w):Calls prog 73 #[.agg (srcC s).toArray] w (gG w (jP s)):=by
 have ag:(srcC s).toArray.size=8:=rfl;obtain⟨W1,ac⟩:=nm (w.alloc (.cells (srcC s).toArray 31));have K1:=MY (Blk.new w (srcC s) 31);have B1:=MY ((NB w.heap.size w).alloc (No _) (.cells (srcC s).toArray 31));rw[ac]at K1 B1;have HW:=MY (LR s W1 (hS.below B1.out) ht (hT.below B1.out));go_enter func73,ntmps73;go_wp2_with (refine wR 31 (ai K1.out) ?_);refine HW.mono ?_;rintro e w2 ⟨ad,i,ok,k,y0,y1,y2,rfl,hk⟩;have HB:=MY (B1.trans (ad.mono B1.size));have HK:=MY hk;by_cases ab:k=0
 ·subst ab
  cases ok with
  |false=>
   go_wp2_with fail
   refine bodyPost_ret (v:= .int .i64 0) (by simp[results,results73,go_sem]) rfl ⟨?_,0,rfl,⟨fun _=>HK.1 ⟨by first|rfl|trivial,by first|rfl|trivial⟩,fun _=>rfl⟩⟩
   exact(HB.alloc HB.size _)
  |true=>
   go_wp2_with fail
   refine bodyPost_ret (v:= .int .i64 140) (by simp[results,results73,go_sem]) rfl ⟨?_,140,rfl,⟨fun h=>absurd h (by decide),fun h=>absurd (HK.2 h).2 (by decide)⟩⟩
   exact(HB.alloc HB.size _)
 ·go_wp2_with fail;refine bodyPost_ret (v:= .int .i64 k) (by simp[results,results73,go_sem]) rfl ⟨?_,k,rfl,⟨fun h=>absurd h ab,fun h=>absurd (HK.2 h).1 ab⟩⟩;exact(HB.alloc HB.size _)
end
section
attribute [local go_sem] Oper.semAt_some
def LT(nn g n i B1 B2:Nat)(E:Nat->Nat->Bool)(T)(w)(Kp:World->World->Prop)(an:∀V W l T,Kp V W->Blk V (g+1+i) l T->Blk W (g+1+i) l T)(hi:i<n)(hn:n<=1048576) :uI Fence.wide nn prog 129 #[.pointer B1,.pointer B2] (fun x:{x:Nat // x<n/\E i x=true}=>#[.int .i64 (x.1:Int)]) T (fun xs=>xs.map (·.1)=dp E i n) (fun _=>True) (fun _ _=>False) 1048577 w (fun V=>Blk V B1 [.slice g n n] 147/\Blk V B2 [.int .i64 (i:Int)] 3/\Blk V g (dg g n n) 220/\Blk V (g+1+i) (bZ E n i) 4) Kp:=by
 rintro l J Jx W hW ⟨ao,ar,hg,hr⟩ hJ hY h0;have ba:=nT;have HY:=MY hY;have al:=MY an;have q1:=(hg.at i _ (kB hi)).1;rw[if_pos hi]at q1;have q2:=(ao.at 0 _ rfl).1;have q3:=(ar.at 0 _ rfl).1;have J0:=MY h0;have R0:=MY hr;obtain⟨bb,bc⟩:=ix (k:=i) (n:=n);refine callsIn_of_wp func129 rfl trivial ?_ rfl;simp only[ntmps129,NV,M6,ND,Nat.reduceAdd,Nat.reduceSub,NZ,N0,N1,N2,M9,MZ];refine wpIn_wide.2 ?_;go_wp2_with fail;go_loopw [11] (fun z V=>∃k:Nat,k<=n/\z=.int .i64 k/\Hid (∃pre,pre.map (·.1)=dp E i k/\J pre V)/\Hid (Blk V (g+1+i) (bZ E n i) 4)) (fun z _=>n-(intOf z).toNat)
 case atStart=>exact⟨0,Nu _,rfl,⟨[],rfl,J0.out⟩,R0.out⟩
 case round=>
  obtain⟨k,hk,rfl,HJ,HB⟩:=hrel;by_cases ad:k<n
  case neg=>
   obtain rfl:n=k:=by omega
   go_wp2_with fail;go_end0;obtain⟨pre,ab,hj⟩:=HJ.out;exact Or.inl ⟨⟨_,rfl⟩,Or.inl ⟨pre,ab,hj⟩⟩
  have q4:=(HB.at k _ (lR ad)).1;obtain⟨bd,be⟩:=ix (k:=k) (n:=n)
  cases he:E i k with
  |false=>
   rw[he]at q4
   have ag:Hid (∃pre,pre.map (·.1)=dp E i (k+1)/\J pre wr):=by obtain⟨pre,ab,hj⟩:=HJ.out;exact⟨pre,by rw[AO he];exact ab,hj⟩
   go_wp2
   go_roundw
   case rel=>exact⟨k+1,by omega,by go_num,ag.out,HB.out⟩
   case measure=>simp[intOf];omega
  |true=>
   rw[he]at q4
   have HE:=MY he
   obtain⟨pre,ab,hj⟩:=HJ.out
   have ac:=MY ab
   obtain⟨fn,tmps,assign,body,hy,hR⟩:=HY.out pre ⟨k,ad,he⟩ wr hj (by have:=AQ E i k;rw[<-ab,N6]at this;omega)
   change (Instr.yield l #[.int .i64 (k:Int)]).run _ wr=_ at hy
   refine(wpIn_wide (n:=nn)).1 ?_
   gi_wp2
   refine⟨fun e=>by simp[Fence.wide]at e,hR.mono ?_⟩
   rintro e W3 (⟨rfl,ax,bg,av,_⟩|⟨rfl,aA⟩)
   ·have J3:Hid (∃pre,pre.map (·.1)=dp E i (k+1)/\J pre W3):=⟨_,by rw[AN HE.out,N9,ac.out];rfl,ax⟩
    have B3:=MY (al.out _ _ _ _ av HB.out)
    gi_wp2_with fail
    go_wp2_with fail
    refine⟨⟨k+1,by omega,by go_num,J3.out,B3.out⟩,?_⟩
    simp[intOf];omega
   ·have JX:=MY aA
    gi_wp2_with fail
    go_wp2_with fail
    refine bodyPost_ret (v:= .tuple #[]) (by simp[results,results129]) rfl ?_
    exact Or.inl ⟨⟨_,rfl⟩,Or.inr ⟨_,trivial,JX.out⟩⟩
def fT(xs:List Nat):List Value:=xs.map fun x:Nat=>Value.int .i64 (x:Int)
def uS{xs:List Nat}{j x:Nat}(h:xs[j]? = some x):(fT xs)[j]? = some (.int .i64 (x:Int)):=by unfold fT;rw[Ou,h];rfl
def LU(xs:List Nat):fT xs=((xs.map fun x:Nat=>(x:Int)).map af).flatten:=by
 induction xs with
 |nil=>rfl
 |cons a t ih=>
  show Value.int .i64 (a:Int)::fT t=_
  rw[ih]
  rfl
def fU(n:Nat)(xs:List Nat):Nat:=(xs.map fun x=>n-x).sum
def Bd{n:Nat}:∀{xs:List Nat} {j x v:Nat},xs[j]? = some x->x<v->x<n->fU n (xs.set j v)<fU n xs
 |[],_,_,_,h,_,_=>by simp at h
 |a::xs,0,x,v,h,h1,h2=>by
  simp only[Oj,Option.some.injEq]at h;subst h;simp only[OB,fU,NP,List.sum_cons];omega
 |a::xs,j+1,x,v,h,h1,h2=>by
  rw[Ok]at h;have:=Bd h h1 h2;simp only[OC,fU,NP,List.sum_cons]at this⊢;omega
def mB(W:World)(lb n:Nat):Nat:=match W.heap[lb]? with
 |some (.cells cs _ _)=>(cs.toList.map fun v=>match v with |.int _ k=>n-k.toNat|_=>0).sum
 |_=>0
def Be{W}{lb n:Nat}{xs:List Nat}{T}(h:Blk W lb (fT xs) T):mB W lb n=fU n xs:=by
 unfold mB fU;have h':W.heap[lb]? = some (.cells (fT xs).toArray T (0,0)):=h;rw[h'];simp only[fT,List.map_map];congr 1
def mC(W:World)(v:Value):Nat:=match v with
 |.pointer (some p)=>(match W.cell? p with|some (.bool true)=>1|_=>0)
 |_=>0
def Bf{W}{b:Nat}{fl:Bool}{T}(h:Blk W b [.bool fl] T):mC W (.pointer b)=if fl then 1 else 0:=by
 unfold mC;simp only[(h.at 0 _ rfl).1]
 cases fl <;> rfl
def GeX(xs:List Nat)(i j:Nat):Prop:=∀x y,xs[i]? = some x->xs[j]? = some y->x<y
structure LvS(w:World)(g n lc lb b8:Nat)(E:Nat->Nat->Bool)(xs:List Nat)(fl:Bool)(ms:List Nat)(W:World):Prop where
 bl:eB w W
 c2:Blk W lc [.slice lb n n] 32
 cl:Blk W lb (fT xs) 3
 c8:Blk W b8 [.bool fl] 4
 gg:Blk W g (dg g n n) 220
 gr:∀j,j<n->Blk W (g+1+j) (bZ E n j) 4
 mks:ce w.heap.size ms W
 len:xs.length=n
 pth:∀j x,xs[j]? = some x->Pth E n x j
structure LvL(w:World)(g n lc lb:Nat):Prop where
 h1:w.heap.size<=lc
 h2:lc<g
 h3:g+n<lb
section
variable {w W W':World} {g n lc lb b8:Nat} {E:Nat->Nat->Bool} {xs:List Nat} {fl:Bool} {ms:List Nat}
def LvS.below(h:LvS w g n lc lb b8 E xs fl ms W)(hb:eB W W'):LvS w g n lc lb b8 E xs fl ms W':=
 ⟨h.bl.trans (hb.mono h.bl.size),h.c2.below hb h.c2.lt,h.cl.below hb h.cl.lt,h.c8.below hb h.c8.lt,h.gg.below hb h.gg.lt,fun j hj=>(h.gr j hj).below hb (h.gr j hj).lt,h.mks.below hb,h.len,h.pth⟩
def LvS.grown{B:Nat}{row:Option Nat}(h:LvS w g n lc lb b8 E xs fl ms W)(hL:LvL w g n lc lb)(hg:W.grownBy W' row)(hr:∀r,row=some r->B<=r)(ab:lb<B)(h8:b8<B)(hm:∀D∈ms,D<B):LvS w g n lc lb b8 E xs fl ms W':=by
 have k1:=hL.h1;have k2:=hL.h2;have k3:=hL.h3;exact⟨h.bl.grown hg h.bl.size (fun r e=>by have:=hr r e;omega),h.c2.grown hg (fun e=>by have:=hr _ e.symm;omega),h.cl.grown hg (fun e=>by have:=hr _ e.symm;omega),h.c8.grown hg (fun e=>by have:=hr _ e.symm;omega),h.gg.grown hg (fun e=>by have:=hr _ e.symm;omega),fun j hj=>(h.gr j hj).grown hg (fun e=>by have:=hr _ e.symm;omega),h.mks.grown hg (fun r e hD=>by have:=hr r e;have:=hm r hD;omega),h.len,h.pth⟩
def LvS.dr(h:LvS w g n lc lb b8 E xs fl ms W):LvS w g n lc lb b8 E xs fl ms W.drew:=
 ⟨h.bl.drew,h.c2.drew,h.cl.drew,h.c8.drew,h.gg.drew,fun j hj=>(h.gr j hj).drew,h.mks.below (NB _ _).drew,h.len,h.pth⟩
def LvS.flag(h:LvS w g n lc lb b8 E xs fl ms W)(hL:LvL w g n lc lb)(h8:lb<b8)(f:Bool):LvS w g n lc lb b8 E xs f ms (W.setCell ⟨b8,0,none⟩ (.bool f)):=by
 have k1:=hL.h1;have k2:=hL.h2;have k3:=hL.h3;exact⟨h.bl.setCell (p:=⟨b8,0,none⟩) (by show _<=b8;omega) _,h.c2.other (by omega) _,h.cl.other (by omega) _,h.c8.set 0 _,h.gg.other (by omega) _,fun j hj=>(h.gr j hj).other (by omega) _,h.mks.cells (gh W b8 0 _) (fun r e=>by cases e;exact⟨_,h.c8,fun x e=>by cases e⟩),h.len,h.pth⟩
def LvS.lift(h:LvS w g n lc lb b8 E xs fl ms W)(hL:LvL w g n lc lb)(h8:lb<b8){i j x:Nat}(hi:i<n)(hj:j<n)(he:E i j=true)(hx:xs[i]? = some x):LvS w g n lc lb b8 E (xs.set j (x+1)) fl ms (W.setCell ⟨lb,j,none⟩ (.int .i64 ((x+1:Nat):Int))):=by
 have k1:=hL.h1;have k2:=hL.h2;have k3:=hL.h3;refine⟨h.bl.setCell (p:=⟨lb,j,none⟩) (by show _<=lb;omega) _,h.c2.other (by omega) _,?_,h.c8.other (by omega) _,h.gg.other (by omega) _,fun j hj=>(h.gr j hj).other (by omega) _,h.mks.cells (gh W lb j _) (fun r e=>by cases e;exact⟨_,h.cl,fun x e=>by cases e⟩),by simp[h.len],fun k y hk=>?_⟩
 ·have:=h.cl.set j (.int .i64 ((x+1:Nat):Int));unfold fT at this⊢;rw[List.map_set];exact this
 ·by_cases e:j=k
  ·subst e;rw[On (by rw[h.len];exact hj)]at hk
   cases hk;exact .succ (h.pth i x hx) hi hj he
  ·rw[Oo e]at hk;exact h.pth k y hk
end
structure InR(E:Nat->Nat->Bool)(n:Nat)(xs0 xs:List Nat)(fl:Bool)(i:Nat)(pre:List Nat):Prop where
 le:fU n xs<=fU n xs0
 lt:fl=true->fU n xs<fU n xs0
 ge:fl=false->(∀i' j,i'<i->E i' j=true->j<n->GeX xs i' j)/\∀j∈pre,GeX xs i j
def LvO(w:World)(g n lc lb:Nat)(E:Nat->Nat->Bool)(a:Act)(W:World):Prop:=
 ∃(u:Nat->Value)(ms:List Nat) (b8:Nat) (xs:List Nat) (fl:Bool),a={tmps:=#[u 0,u 1,.pointer lc,u 3,u 4,u 5,u 6,.slice g n n,.pointer b8,u 9,u 10,u 11,u 12,u 13,u 14,u 15,u 16,u 17,u 18,u 19,u 20,u 21,u 22,u 23,u 24,u 25,u 26,u 27,u 28,u 29,u 30,u 31,u 32,u 33,u 34,u 35,u 36,u 37,u 38,u 39,u 40,u 41,u 42,u 43,u 44,u 45,u 46,u 47,u 48,u 49,u 50,u 51,u 52,u 53,u 54,u 55,u 56,u 57,u 58,u 59,u 60,u 61,u 62,u 63,u 64,u 65,u 66,u 67,u 68],defers:=ms.map qZ}/\LvS w g n lc lb b8 E xs fl ms W/\lb<b8/\(fl=false->∀i j,i<n->j<n->E i j=true->GeX xs i j)
def LvN(w:World)(g n lc lb b8:Nat)(E:Nat->Nat->Bool)(xs0:List Nat)(a:Act)(W:World):Prop:=
 ∃(u:Nat->Value)(ms:List Nat) (i:Nat) (xs:List Nat) (fl:Bool),a={tmps:=#[u 0,u 1,.pointer lc,u 3,u 4,u 5,u 6,.slice g n n,.pointer b8,u 9,u 10,u 11,u 12,u 13,u 14,u 15,u 16,u 17,u 18,u 19,u 20,u 21,u 22,u 23,u 24,u 25,u 26,u 27,u 28,u 29,u 30,.int .i64 (n:Int),.int .i64 (i:Int),u 33,u 34,u 35,u 36,u 37,u 38,u 39,u 40,u 41,u 42,u 43,u 44,u 45,u 46,u 47,u 48,u 49,u 50,u 51,u 52,u 53,u 54,u 55,u 56,u 57,u 58,u 59,u 60,u 61,u 62,u 63,u 64,u 65,u 66,u 67,u 68],defers:=ms.map qZ}/\LvS w g n lc lb b8 E xs fl ms W/\i<=n/\InR E n xs0 xs fl i []
open Classical in
noncomputable def lvS(s:SrcR):List Nat:=if h:∃l,iq (jc s) s.items.length l then Classical.choose h else []
def LV{s}{l:List Nat}(h:iq (jc s) s.items.length l):lvS s=l:=by
 unfold lvS;rw[dif_pos ⟨l,h⟩];exact(Classical.choose_spec (p:=fun l=>iq (jc s) s.items.length l) ⟨l,h⟩).unique h
def mD(s:SrcR):Prop:=¬Cyc (jc s) s.items.length/\∀x∈lvS s,x<=30
def uT(lc:Nat)(W)(tmps:Array Value)(k:Int)(v)(h2:tmps.getD 2 undef=.pointer lc)(h3:tmps.getD 3 undef=.int .i64 k)(K:Blk W lc [v] 32) :(results Tryz.f40 tmps).run prog W=.ok (.tuple #[v,.int .i64 k]) W:=by
 rw[Ow]at h2 h3;have r0:=(K.at 0 _ rfl).1;simp[results,results40,go_sem,h2,h3,r0]
def LW(n:Nat)(hn:n<=1048576)(w):(Instr.makeSlice 32 (.int .i64 (n:Int)) (.int .i64 (n:Int))).run prog w=.ok (.slice w.heap.size n n) (w.alloc (.cells (Array.replicate n (.int .i64 0)) 3)):=by
 rw[<-OQ,<-qA];exact run_make_row' 32 3 (.int .i64 0) 8 underlying32 (by kernel_rfl) rfl .i64 .i64 n (by omega) (by omega) w
def Bg(s)(w)(hS:ap w s)(ht:TypesOk s)(hT:Tab w):Calls prog 40 #[.agg (srcC s).toArray] w (nO w (mD s) ((lvS s).map fun x:Nat=>(x:Int))):=by
 have eY:(srcC s).toArray.size=8:=rfl;have cP:=MY (fun W (hW:eB w W)=>nJ s W (hS.below hW) (hT.below hW));have bg:=MY (fun W (hW:eB w W)=>LD s W (hS.below hW) ht (hT.below hW));have ba:=MY (fun W (hW:eB w W)=>yZ s W (hS.below hW) ht.2.2);have ec:=MY ht;have bc:=hS.il;unfold BIG at bc;obtain⟨n,hn⟩:=nm s.items.length;obtain⟨E,hE⟩:=nm (jc s);obtain⟨p,hp⟩:=nm (mD s);obtain⟨l,hl⟩:=nm ((lvS s).map fun x:Nat=>(x:Int));have HP:Hid (p<->¬Cyc E n/\∀x∈lvS s,x<=30):=by show p<->_;rw[<-hp,<-hE,<-hn];rfl
 have cD:Hid (∀xs,iq E n xs->lvS s=xs/\l=xs.map fun x:Nat=>(x:Int)):=fun xs h=>by
  have:=LV (s:=s) (l:=xs) (by rw[hE,hn];exact h);exact⟨this,by rw[<-hl,this]⟩
 unfold tP at ba;rw[hn]at bc ba bg;rw[hE]at ba bg;rw[hp,hl];obtain⟨ph,hh⟩:=nm w.heap.size;have HH:Hid (w.heap.size=ph):=hh;obtain⟨W1,bo⟩:=nm ((w.alloc (.cells (srcC s).toArray 31)).alloc (.cells #[.slice none 0 0] 32));have K1:Hid (Blk W1 ph (srcC s) 31):=by rw[<-bo,<-hh];exact(Blk.new w (srcC s) 31).alloc _
 have C1:Hid (Blk W1 (ph+1) [.slice none 0 0] 32):=by
  have:=Blk.new (w.alloc (.cells (srcC s).toArray 31)) [.slice none 0 0] 32;rw[NU,hh,bo]at this;exact this
 have B1:Hid (eB w W1):=by rw[<-bo];exact((NB w.heap.size w).alloc (No _) _).alloc (by simp) _
 clear hS ht hT hn hE hp hl;refine(callsIn_wide (n:=9)).1 ?_;refine callsIn_of_wp_marks func40 rfl trivial ?_ rfl;refine wpIn_wide.2 ?_;simp only[ntmps40,NV,M6,ND,Nat.reduceAdd,Nat.reduceSub,NZ,N0,N1,N2,M9,MZ];go_wp2_with (refine wR 31 (ai K1.out) ?_);clear bo;refine(cP.out W1 B1.out).mono ?_;rintro e w2 ⟨av,k,rfl,hk⟩;obtain rfl:k=0:=hk.2 ec.out;have K2:=MY (K1.below av K1.lt);have C2:=MY (C1.below av C1.lt);have B2:=MY (B1.trans (av.mono B1.size));clear av hk K1 B1 C1 cP;go_wp2_with (refine wR 31 (ai K2.out) ?_);refine(bg.out w2 B2.out).mono ?_;rintro e w3 ⟨bp,cv,cb,rfl,di⟩;have K3:=MY (K2.below bp K2.lt);have C3:=MY (C2.below bp C2.lt);have B3:=MY (B2.trans (bp.mono B2.size));have bv:=MY di;obtain⟨q,f⟩:=C3.at 0 _ rfl;have ac:=C3.lt;clear bp di K2 B2 C2 bg
 cases cb with
 |true=>
  have HC:Hid (Cyc E n):=bv.1 (by first|rfl|trivial)
  go_wp2_with fail
  refine mw (N:=w.heap.size) [] _ (by have:=B3.size;simpa[World.setCell]using this) trivial (fun W' hs=>⟨_,uT (ph+1) W' _ 150 (.slice none 0 0) rfl rfl (hs.blk (C3.set 0 (.slice none 0 0))),(B3.setCell (p:=⟨ph+1,0,none⟩) (by have:=HH.out;show _<=ph+1;omega) _).trans hs.bl,_,150,rfl,⟨fun h=>absurd h (by decide),fun h=>absurd HC.out (HP.1 h).1⟩,fun h=>absurd h (by decide)⟩)
 |false=>
 have bh:Hid (¬Cyc E n):=fun h=>by have:=bv.2 h;cases this
 have ep:=LW n bc;clear q f ac bv;go_wp2_with (refine wR 31 (ai K3.out) ?_);refine(ba.out w3 B3.out).mono ?_;rintro e w4 ⟨cd,gv,rfl,g,ef,rfl,cf,cm⟩;have C4:=MY (C3.below cd C3.lt);have B4:=MY (B3.trans (cd.mono B3.size));obtain⟨lb,ci⟩:=nm w4.heap.size;obtain⟨q,f⟩:=C4.at 0 _ rfl;have ac:=C4.lt;have ab:Hid (LvL w g n (ph+1) lb):=by
  have h1:=HH.out;have h2:=C3.lt;have h3:=cf.lt;refine⟨by omega,by omega,?_⟩
  cases n with
  |zero=>omega
  |succ m=>have:=(cm m (by omega)).lt;omega
 obtain⟨V6,df⟩:=nm (((w4.setCell ⟨ph+1,0,none⟩ (.slice (some ⟨lb,0,none⟩) n n)).alloc (.cells (Array.replicate n (.int .i64 0)) 3)).alloc (.cells #[.bool true] 4));have S6:Hid (LvS w g n (ph+1) lb (lb+1) E (List.replicate n 0) true [] V6):=by
  have hz:(w4.setCell ⟨ph+1,0,none⟩ (.slice lb n n)).heap.size=lb:=by rw[<-ci];simp[World.setCell]
  have e1:=Blk.new (w4.setCell ⟨ph+1,0,none⟩ (.slice lb n n)) (fT (List.replicate n 0)) 3;have e2:=Blk.new ((w4.setCell ⟨ph+1,0,none⟩ (.slice lb n n)).alloc (.cells (fT (List.replicate n 0)).toArray 3)) [.bool true] 4;rw[NU]at e2;rw[hz]at e1 e2;have ei:(fT (List.replicate n 0)).toArray=Array.replicate n (Value.int .i64 0):=by simp[fT]
  rw[ei]at e1 e2;have h1:=ab.h1;have h2:=ab.h2;have hb:eB w (w4.setCell ⟨ph+1,0,none⟩ (.slice lb n n)):=B4.setCell (p:=⟨ph+1,0,none⟩) (by show _<=ph+1;omega) _;rw[<-df];refine⟨(hb.alloc hb.size _).alloc (by have:=hb.size;simp;omega) _,((C4.set 0 _).alloc _).alloc _,e1.alloc _,e2,((cf.other (by omega) _).alloc _).alloc _,fun j hj=>(((cm j hj).other (by omega) _).alloc _).alloc _,trivial,by simp,fun j x hx=>?_⟩;obtain⟨_,rfl⟩:j<n/\x=0:=by
   have:=NQ.1 hx;obtain⟨h1,h2⟩:=this;simp at h1 h2;exact⟨h1,h2.symm⟩
  exact .zero
 clear cd ef cf cm B4 C4 C3 K3 ba;rw[ci]at ac;go_wp2_with fail;clear q f ac ep df ci;refine(wpIn_wide (n:=9)).1 ?_;refine wpIn_loop (LvO w g n (ph+1) lb E) (fun a V=>2*mB V lb n+mC V (a.tmps.getD 8 undef)) ?_ ?_
 ·exact⟨fun i=>(#[.agg (srcC s).toArray,.pointer ph,.pointer (ph+1:Nat),.int .i64 0,.int .i64 0,cv,.bool false,.slice g n n,.pointer (lb+1:Nat),undef,undef,undef,undef,.agg (srcC s).toArray,.int .i64 0,.int .i64 0,.bool false,undef,.tuple #[cv,.bool false],.agg (srcC s).toArray,.tuple #[cv,.bool false],cv,.bool false,.bool false,.agg (srcC s).toArray,.slice g n n,.slice g n n,.int .i64 (n:Int),.slice lb n n,undef,undef,undef,undef,undef,undef,undef,undef,undef,undef,undef,undef,undef,undef,undef,undef,undef,undef,undef,undef,undef,undef,undef,undef,undef,undef,undef,undef,undef,undef,undef,undef,undef,undef,undef,undef,undef,undef,undef,undef]:Array Value).getD i undef,[],lb+1,List.replicate n 0,true,rfl,S6.out,by omega,fun h=>by cases h⟩
 clear S6;rintro a V ⟨u,ms,b8,xs0,fl,rfl,S,h8,ax⟩;have SS:=MY S;have cz:=MY ax;obtain⟨q8,f8⟩:=S.c8.at 0 _ rfl;have br:=S.c8.lt;have ea:Hid (2*mB V lb n+mC V (.pointer b8)=2*fU n xs0+if fl then 1 else 0):=by
  show _=_;rw[Be S.cl,Bf S.c8]
 clear S ax
 cases fl with
 |false=>
  have cN:Hid (iq E n xs0):=⟨SS.len,SS.pth,fun i j x y hi hj he hx hy=>cz.out (by first|rfl|trivial) i j hi hj he x y hx hy⟩
  obtain⟨p2,fi⟩:=SS.c2.at 0 _ rfl
  have fo:=SS.c2.lt
  gi_wp2_with fail
  have bw:Hid (∀(W':World)(tmps:Array Value),tmps.getD 2 undef=.pointer (ph+1:Nat)->tmps.getD 3 undef=.int .i64 0->(∀x∈xs0,x<=30)->gV w.heap.size (V.setCell ⟨ph+1,0,none⟩ (.slice lb n n)) W'->∃v,(results Tryz.f40 tmps).run prog W'=.ok v W'/\nO w p l (.returned v) W'):=fun W' tmps h2 h3 bs hs=>by
   have ed:=ab.h1;have ew:=ab.h2;have ex:=ab.h3;obtain⟨e1,e2⟩:=cD.out xs0 cN.out;have hb:=(SS.bl.setCell (p:=⟨ph+1,0,none⟩) (by show _<=ph+1;omega) (.slice lb n n)).trans hs.bl;have ds:=SS.len;have ho:=aa.of_new (B:=w.heap.size) (L:=l.map af) (k:=1) (hs.blk (SS.cl.other (c:=ph+1) (by omega) (.slice lb n n))) (by rw[e2];exact LU xs0) (fun c hc=>by obtain⟨x,_,rfl⟩:=OE.1 hc;rfl) (by omega) (by rw[e2];simp;omega);have en:(l.map af).length=n:=by rw[e2];simp[ds]
   rw[en]at ho;refine⟨_,uT (ph+1) W' tmps 0 (.slice lb n n) h2 h3 (hs.blk (SS.c2.set 0 _)),hb,_,0,rfl,⟨fun _=>HP.2 ⟨bh.out,by rw[e1];exact bs⟩,fun _=>rfl⟩,fun _=>⟨ho,by rw[e2];simp[ds];exact bc⟩⟩
  have bu:Hid (∀(W':World)(tmps:Array Value),tmps.getD 2 undef=.pointer (ph+1:Nat)->tmps.getD 3 undef=.int .i64 150->¬(∀x∈xs0,x<=30)->gV w.heap.size (V.setCell ⟨ph+1,0,none⟩ (.slice none 0 0)) W'->∃v,(results Tryz.f40 tmps).run prog W'=.ok v W'/\nO w p l (.returned v) W'):=fun W' tmps h2 h3 bs hs=>by
   have ed:=ab.h1;obtain⟨e1,e2⟩:=cD.out xs0 cN.out;have hb:=(SS.bl.setCell (p:=⟨ph+1,0,none⟩) (by show _<=ph+1;omega) (.slice none 0 0)).trans hs.bl;exact⟨_,uT (ph+1) W' tmps 150 (.slice none 0 0) h2 h3 (hs.blk (SS.c2.set 0 _)),hb,_,150,rfl,⟨fun h=>absurd h (by decide),fun h=>absurd (by have:=(HP.1 h).2;rw[e1]at this;exact this) bs⟩,fun h=>absurd h (by decide)⟩
  have an:Hid (∀v,w.heap.size<=(V.setCell ⟨ph+1,0,none⟩ v).heap.size/\ce w.heap.size ms (V.setCell ⟨ph+1,0,none⟩ v)):=fun v=>⟨by have:=SS.bl.size;simpa[World.setCell]using this,SS.mks.cells (gh V (ph+1) 0 v) (fun r e=>by cases e;exact⟨_,SS.c2,fun x e=>by cases e⟩)⟩
  have er:(n:Int)<=1048576:=by omega
  go_wp2_with fail
  go_loopw [61] (fun z W=>∃k:Nat,k<=n/\z=.int .i64 k/\W=V/\Hid (∀j x,j<k->xs0[j]? = some x->x<=30)) (fun z _=>n-(intOf z).toNat)
  case atStart=>exact⟨0,Nu _,rfl,by first|rfl|trivial,fun j x h=>by omega⟩
  case round=>
   obtain⟨k,hk,rfl,rfl,cC⟩:=hrel
   by_cases ac:k<n
   case neg=>
    obtain rfl:n=k:=by omega
    have ca:Hid (∀x∈xs0,x<=30):=fun x hx=>by
     obtain⟨j,hj⟩:=List.mem_iff_getElem?.1 hx;have eP:=(NQ.1 hj).1;exact cC.out j x (by have:=SS.len;omega) hj
    go_wp2_with fail
    exact mw (N:=w.heap.size) ms _ (an.out _).1 (an.out _).2 (fun W' hs=>bw.out W' _ rfl rfl ca.out hs)
   obtain⟨xk,co⟩:=gx (l:=xs0) (i:=k) (by rw[SS.len];exact ac)
   have r1:=(SS.cl.at k _ (uS co)).1
   obtain⟨eR,eS⟩:=ix (k:=k) (n:=n)
   have cR:=MY co
   clear co
   by_cases bb:30<xk
   ·have t1:decide ((30:Int)<(xk:Int))=true:=by simp;omega
    have eb:Hid (¬ ∀x∈xs0,x<=30):=fun h=>by have:=h xk (Oc cR.out);omega
    clear bb
    go_wp2_with fail
    exact mw (N:=w.heap.size) ms _ (an.out _).1 (an.out _).2 (fun W' hs=>bu.out W' _ rfl rfl eb.out hs)
   ·have t1:decide ((30:Int)<(xk:Int))=false:=by simp;omega
    have bx:Hid (∀j x,j<k+1->xs0[j]? = some x->x<=30):=fun j x hj hx=>by
     by_cases e:j=k
     ·subst e;rw[cR.out]at hx;cases hx;omega
     ·exact cC.out j x (by omega) hx
    clear bb
    go_wp2
    go_roundw
    case rel=>exact⟨k+1,by omega,by go_num,by first|rfl|trivial,bx.out⟩
    case measure=>simp[intOf];omega
 |true=>
 have S1:=MY (SS.flag ab.out h8 false);gi_wp2_with fail;clear q8 f8 br cz;refine wpIn_loop (LvN w g n (ph+1) lb b8 E xs0) (fun a _=>n-(intOf (a.tmps.getD 32 undef)).toNat) ?_ ?_
 ·exact⟨fun i=>(#[u 0,u 1,.pointer (ph+1:Nat),u 3,u 4,u 5,u 6,.slice g n n,.pointer b8,u 9,u 10,u 11,u 12,u 13,u 14,u 15,u 16,u 17,u 18,u 19,u 20,u 21,u 22,u 23,u 24,u 25,u 26,u 27,u 28,.bool true,.slice g n n,.int .i64 (n:Int),.int .i64 0,u 33,u 34,u 35,u 36,u 37,u 38,u 39,u 40,u 41,u 42,u 43,u 44,u 45,u 46,u 47,u 48,u 49,u 50,u 51,u 52,u 53,u 54,u 55,u 56,u 57,u 58,u 59,u 60,u 61,u 62,u 63,u 64,u 65,u 66,u 67,u 68]:Array Value).getD i undef,ms,0,xs0,false,rfl,S1.out,Nu _,⟨No _,fun h=>(by cases h),fun _=>⟨fun i' j h=>(by omega),fun j h=>(by cases h)⟩⟩⟩
 clear S1;rintro a W ⟨u',al,i,xs,fl,rfl,S,hi,HR⟩;have ev:=MY S;have bi:=MY HR;obtain⟨q8,f8⟩:=S.c8.at 0 _ rfl;have br:=S.c8.lt;by_cases ac:i<n
 case neg=>
  obtain rfl:n=i:=by omega
  obtain⟨W9,ee⟩:=nm (W.alloc (.cells #[.bool fl] 4));have S9:Hid (LvS w g n (ph+1) lb W.heap.size E xs fl al W9):=by
   have h:=S.below (ak W (.cells #[.bool fl] 4));have e:=Blk.new W [.bool fl] 4;rw[ee]at h e;exact⟨h.bl,h.c2,h.cl,e,h.gg,h.gr,h.mks,h.len,h.pth⟩
  have H9:Hid (lb<W.heap.size):=S.cl.lt;clear S HR;gi_wp2_with fail;refine⟨⟨fun i=>(#[u' 0,u' 1,.pointer (ph+1:Nat),u' 3,u' 4,u' 5,u' 6,.slice g n n,.pointer W.heap.size,u' 9,u' 10,u' 11,u' 12,u' 13,u' 14,u' 15,u' 16,u' 17,u' 18,u' 19,u' 20,u' 21,u' 22,u' 23,u' 24,u' 25,u' 26,u' 27,u' 28,u' 29,u' 30,.int .i64 (n:Int),.int .i64 (n:Int),.bool false,u' 34,u' 35,u' 36,u' 37,u' 38,u' 39,u' 40,u' 41,u' 42,u' 43,u' 44,u' 45,u' 46,u' 47,u' 48,u' 49,u' 50,u' 51,u' 52,u' 53,u' 54,u' 55,u' 56,u' 57,.bool fl,u' 59,u' 60,u' 61,u' 62,u' 63,u' 64,u' 65,u' 66,u' 67,u' 68]:Array Value).getD i undef,al,W.heap.size,xs,fl,rfl,S9.out,H9.out,fun h i j dk hj he=>(bi.ge h).1 i j dk he hj⟩,?_⟩;have hm:=ea.out;show 2*mB W9 lb n+mC W9 (.pointer W.heap.size)<2*mB V lb n+mC V (.pointer b8);rw[Be S9.cl,Bf S9.c8,hm];have h1:=bi.le;have h2:=bi.lt
  cases fl with
  |false=>simp;omega
  |true=>have:=h2 rfl;simp;omega
 obtain⟨vz,bt⟩:=nm W.heap.size;obtain⟨V1,cc⟩:=nm (W.alloc (.cells #[.int .i64 (i:Int)] 3));have cr:V1.heap.size=vz+1:=by rw[<-cc,<-bt];simp
 have S3:=MY (S.below (ak W (.cells #[.int .i64 (i:Int)] 3)));have Y0:=MY (Blk.new W [.int .i64 (i:Int)] 3);rw[cc]at S3 Y0;rw[bt]at Y0;have HU:=MY (uK (.slice g n n) i V1 ⟨_,_,_,rfl⟩);rw[cr]at HU;have db:=MY cr;obtain⟨q9,f9⟩:=Y0.at 0 _ rfl;have em:vz<V1.heap.size:=Y0.lt;have ag:Hid (b8<vz/\lb<vz/\∀D∈al,D<vz):=by rw[<-bt];exact⟨br,S.cl.lt,fun D hD=>(NX.1 (S.mks.lt D hD).2).1⟩
 clear S HR cr q8 f8 br;gi_wp2_with fail;refine⟨trivial,(callsIn_wide.2 HU.out).mono ?_⟩;clear cc q9 f9 em bt;rintro e V2 ⟨rfl,bn⟩;have Y1:Hid (Blk V2 (vz+1) [.slice g n n] 147):=by
  have:=(Blk.new V1 [.slice g n n] 147).alloc (.cells #[.int .i64 (i:Int)] 3);rw[db.out,bn]at this;exact this
 have Y2:Hid (Blk V2 (vz+1+1) [.int .i64 (i:Int)] 3):=by
  have:=Blk.new (V1.alloc (.cells #[.slice g n n] 147)) [.int .i64 (i:Int)] 3;rw[NU,db.out,bn]at this;exact this
 have av:eB V1 V2:=by rw[<-bn];exact((NB _ V1).alloc (No _) _).alloc (by simp) _
 have S4:Hid (LvS w g n (ph+1) lb b8 E xs fl al V2):=S3.below av;have Y3:Hid (Blk V2 vz [.int .i64 (i:Int)] 3):=Y0.below av Y0.lt;have cu:Hid (vz+1+1<V2.heap.size):=Y2.lt;clear av bn HU S3 Y0;gi_wp2_with fail;have ch:g+1+i<lb:=by have:=ab.h3;omega
 have eo:lb<=V2.heap.size:=by have:=cu.out;have:=ag.2.1;omega
 have cn:w.heap.size<=lb:=by have:=ab.h1;have:=ab.h2;have:=ab.h3;omega
 have HW:=MY cn;have eg:n<=1048576:=bc;refine' qX (x:= .exit 4) (pc:= .exit 4) (.inr ⟨4,rfl,rfl⟩) rfl (by omega) (gf:=129) (lb:=#[.pointer (vz+1:Nat),.pointer (vz+1+1:Nat)]) rfl trivial (enters_of func129 (by kernel_rfl) rfl) (encs:=fun x:{x:Nat // x<n/\E i x=true}=>#[.int .i64 (x.1:Int)]) (T:=31) (N:=1048577) (w0:=w) (Kp:=KpO lb) (fun h k=>h.trans k) (fun h=>KpO.grown h) (fun V l o o' hl _ _=>KpO.put o' (by omega))
  (LT 8 g n i (vz+1) (vz+1+1) E 31 w (KpO lb) (fun V W l T h hb=>h _ _ ch hb) ac eg) ⟨Y1.out,Y2.out,S4.gg,S4.gr i ac⟩ (fun V o h=>⟨h.1.alloc o,h.2.1.alloc o,h.2.2.1.alloc o,h.2.2.2.alloc o⟩) S4.bl (fun _=>rfl)
  (fun pre W=>∃xs fl,LvS w g n (ph+1) lb b8 E xs fl al W/\Blk W vz [.int .i64 (i:Int)] 3/\InR E n xs0 xs fl i (pre.map (·.1))) (fun _ _=>False) ?hI (fun _ _ _ _ h _ _=>h.elim) ⟨xs,fl,S4.out,Y3.out,bi.out⟩
  (fun x a' _=>a'={tmps:=#[u' 0,u' 1,.pointer (ph+1:Nat),u' 3,u' 4,u' 5,u' 6,.slice g n n,.pointer b8,.pointer vz,.int .i64 (x.1:Int),u' 11,u' 12,u' 13,u' 14,u' 15,u' 16,u' 17,u' 18,u' 19,u' 20,u' 21,u' 22,u' 23,u' 24,u' 25,u' 26,u' 27,u' 28,u' 29,u' 30,.int .i64 (n:Int),.int .i64 (i:Int),.bool true,.int .i64 (i:Int),.slice g n n,.int .i64 (i:Int),.func (.func 129) #[] #[.pointer (vz+1:Nat),.pointer (vz+1+1:Nat)],.int .i64 (x.1:Int),u' 39,u' 40,u' 41,u' 42,u' 43,u' 44,u' 45,u' 46,u' 47,u' 48,u' 49,u' 50,u' 51,u' 52,u' 53,u' 54,u' 55,u' 56,u' 57,u' 58,u' 59,u' 60,u' 61,u' 62,u' 63,u' 64,u' 65,u' 66,u' 67,u' 68],defers:=[]}) (fun _ _ _ _ _ _ h _ _=>h) ?assign ?body ?done (fun _ _ _ _ _ h _=>h.elim) (fun _ _ _ _ _ h _ _=>h.elim)
 case hI=>
  rintro pre A C row ⟨xs,fl,h1,h2,h3⟩ hg hr;have:=cu.out;have bk:=ag.out;exact⟨xs,fl,h1.grown (B:=V2.heap.size) ab.out hg (fun r e=>(hr r e).1) (by omega) (by omega) (fun D hD=>by have:=bk.2.2 D hD;omega),h2.grown hg (fun e=>by have:=(hr _ e.symm).1;omega),h3⟩
 case assign=>
  intro l x W K hK;gi_wp2;exact hK _ _ (uL W none) rfl
 case body=>
  rintro l pre ⟨x,be,aA⟩ a' W ⟨xs,fl,h1,h2,h3⟩ rfl hp;have fe:i≠x:=fun e=>bh.out ⟨i,i,ac,by rw[<-e]at aA;exact aA,.inl ⟨rfl,ac⟩⟩;obtain⟨xi,ao⟩:=gx (l:=xs) (i:=i) (by rw[h1.len];exact ac);obtain⟨xx,ar⟩:=gx (l:=xs) (i:=x) (by rw[h1.len];exact be);have es:xi<n:=(h1.pth _ _ ao).short bh.out ac;have cp:xx<n:=(h1.pth _ _ ar).short bh.out be;have p2:=(h1.c2.at 0 _ rfl).1;have p9:=(h2.at 0 _ rfl).1;have pi:=(h1.cl.at i _ (uS ao)).1;obtain⟨px,fv⟩:=h1.cl.at x _ (uS ar);have fs:=h1.cl.lt;obtain⟨p8,fn⟩:=h1.c8.at 0 _ rfl;have fq:=h1.c8.lt;have e1:¬ph+1=lb:=by have:=ab.h2;have:=ab.h3;omega
  have e2:¬vz=lb:=by have:=ag.out;omega
  have e3:¬lb=b8:=by omega
  have e4:¬b8=lb:=by omega
  have SX:=MY h1;have YX:=MY h2;have RX:=MY h3;have HX:=MY (And.intro ao ar);have eu:=MY aA;obtain⟨fb,fc⟩:=ix (k:=x) (n:=n);obtain⟨eC,eD⟩:=ix (k:=i) (n:=n);have ez:(xi:Int)+1<9223372036854775808:=by omega
  have eA:-9223372036854775808<=(xi:Int)+1:=by omega
  have HA:Hid (¬xx<xi+1->KeepsOthers W W.drew/\aI 31 W W.drew/\KpO lb W W.drew/\∃xs fl,LvS w g n (ph+1) lb b8 E xs fl al W.drew/\Blk W.drew vz [.int .i64 (i:Int)] 3/\InR E n xs0 xs fl i (List.map (fun z:{x:Nat // x<n/\E i x=true}=>z.1) (pre++[⟨x,be,aA⟩]))):=fun eU=>
   ⟨rc W,aI.grown (eh W none) (fun r cs fr e=>by cases e),KpO.grown (eh W none),xs,fl,SX.dr,YX.drew,by
    rw[N9];refine⟨RX.le,RX.lt,fun hf=>⟨(RX.ge hf).1,fun j hj=>?_⟩⟩;rcases Of.1 hj with hj|hj
    ·exact(RX.ge hf).2 j hj
    ·simp only[NP,List.map_nil,Oi]at hj;subst hj;intro a b ha hb;rw[HX.1]at ha;rw[HX.2]at hb
     cases ha
     cases hb;omega⟩
  have HB:Hid (xx<xi+1->∀V,((W.drew.drew.setCell ⟨lb,x,none⟩ (.int .i64 ((xi:Int)+1))).setCell ⟨b8,0,none⟩ (.bool true))=V->KeepsOthers W V/\aI 31 W V/\KpO lb W V/\∃xs fl,LvS w g n (ph+1) lb b8 E xs fl al V/\Blk V vz [.int .i64 (i:Int)] 3/\InR E n xs0 xs fl i (List.map (fun z:{x:Nat // x<n/\E i x=true}=>z.1) (pre++[⟨x,be,aA⟩]))):=fun cq V hV=>by
   have L1:=SX.dr.dr.lift ab.out h8 ac be aA HX.1;have e:((xi+1:Nat):Int)=(xi:Int)+1:=by omega
   rw[e]at L1;have L2:=L1.flag ab.out h8 true;rw[hV]at L2;have dn:=((aI.grown (eh W none) (fun r cs fr e=>by cases e):aI 31 W W.drew).trans (aI.grown (eh W.drew none) (fun r cs fr e=>by cases e))).trans ((uM SX.dr.dr.cl (by decide) (.int .i64 ((xi:Int)+1)) (i:=x)).trans (uM L1.c8 (by decide) (.bool true) (i:=0)));have dl:=((rc W).trans (rc W.drew)).trans ((Oa W.drew.drew ⟨lb,x,none⟩ (.int .i64 ((xi:Int)+1))).trans (Oa _ ⟨b8,0,none⟩ (.bool true)));have el:KpO lb W V:=by
    rw[<-hV];exact fun b o hb ho=>(NF _ _ _ _ (by show b≠b8;omega)).trans ((NF _ _ _ _ (by show b≠lb;omega)).trans ho)
   have et:Blk V vz [.int .i64 (i:Int)] 3:=by
    have:=ag.out;rw[<-hV];exact(YX.drew.drew.other (by omega) _).other (by omega) _
   rw[hV]at dn dl;have eV:fU n (xs.set x (xi+1))<fU n xs:=Bd HX.2 cq cp;have bs:=RX.le;exact⟨dl,dn,el,_,true,L2,et,⟨by omega,fun _=>by omega,fun h=>by cases h⟩⟩
  clear h1 h2 h3 ao ar;gi_wp2_with fail;rename_i bm;by_cases ax:xx<xi+1
  ·have t1:decide ((xx:Int)<(xi:Int)+1)=true:=by simp;omega
   have cx:=HB.out ax;have dy:=MY cx;clear cx ax HA HB;refine pp (S:=fun w'=>w'.cell? ⟨ph+1,0,none⟩=some (.slice lb n n)/\w'.cell? ⟨vz,0,none⟩=some (.int .i64 (i:Int))/\w'.cell? ⟨lb,i,none⟩=some (.int .i64 (xi:Int))/\w'.cell? ⟨lb,x,none⟩=some (.int .i64 (xx:Int))) [0,1,2,3,4,5,6,7,8,9] (by kernel_rfl) (by kernel_rfl) (by kernel_rfl) ⟨p2,p9,pi,px⟩ (fun ad=>?_);repeat refine ay ?_
   refine aj ?_;refine bm _ _ ?_;clear bm;rw[IntWalk.i64_in ((xi:Int)+1) ⟨by omega,by omega⟩,t1];clear t1;gi_wp2_with fail;rename_i dd;refine pp (S:=fun w'=>w'.cell? ⟨ph+1,0,none⟩=some (.slice lb n n)/\w'.cell? ⟨vz,0,none⟩=some (.int .i64 (i:Int))/\w'.cell? ⟨lb,i,none⟩=some (.int .i64 (xi:Int))) [0,1,2,3,4,5,6,7,1008] (by kernel_rfl) (by kernel_rfl) (by kernel_rfl) ⟨p2,p9,pi⟩ (fun ad=>?_);repeat refine ay ?_
   refine az fun K hK=>?_;go_simp;refine hK.out _ _ ?_ (fun ad=>?_)
   ·(try dsimp only);(refine⟨?_,?_,?_⟩ <;> (go_simp;try(first|exact p2|exact p9|exact pi)))
   clear hK K;try simp only[PT]
   refine aj ?_;refine dd _ _ ?_;clear dd;gi_wp2_with fail;exact dy.out _ rfl
  ·have t1:decide ((xx:Int)<(xi:Int)+1)=false:=by simp;omega
   have dv:=MY (HA.out ax);clear ax HA HB;refine pp (S:=fun w'=>w'.cell? ⟨ph+1,0,none⟩=some (.slice lb n n)/\w'.cell? ⟨vz,0,none⟩=some (.int .i64 (i:Int))/\w'.cell? ⟨lb,i,none⟩=some (.int .i64 (xi:Int))/\w'.cell? ⟨lb,x,none⟩=some (.int .i64 (xx:Int))) [0,1,2,3,4,5,6,7,8,9] (by kernel_rfl) (by kernel_rfl) (by kernel_rfl) ⟨p2,p9,pi,px⟩ (fun ad=>?_);repeat refine ay ?_
   refine aj ?_;refine bm _ _ ?_;clear bm;rw[IntWalk.i64_in ((xi:Int)+1) ⟨by omega,by omega⟩,t1];clear t1;gi_wp2_with fail;exact dv.out
 case done=>
  rintro D pre W hD bd ⟨xs,fl,h1,h2,h3⟩ hK;have bk:=ag.out;have cw:=cu.out;have dT:Hid (ce w.heap.size (D::al) W):=⟨by omega,hK,fun h=>by have:=bk.2.2 D h;omega,h1.mks⟩
  have SX:Hid (LvS w g n (ph+1) lb b8 E xs fl (D::al) W):=⟨h1.bl,h1.c2,h1.cl,h1.c8,h1.gg,h1.gr,dT.out,h1.len,h1.pth⟩
  have RX:Hid (InR E n xs0 xs fl (i+1) []):=⟨h3.le,h3.lt,fun hf=>⟨fun i' j dk he hj=>by
   by_cases e:i'=i
   ·subst e;exact(h3.ge hf).2 j (by rw[bd];exact uJ.2 ⟨hj,he⟩)
   ·exact(h3.ge hf).1 i' j (by omega) he hj,fun j h=>by cases h⟩⟩
  clear h1 h2 h3 hK bd bk cw;gi_wp2_with fail;refine⟨⟨fun k=>(#[u' 0,u' 1,.pointer (ph+1:Nat),u' 3,u' 4,u' 5,u' 6,.slice g n n,.pointer b8,.pointer vz,u' 10,u' 11,u' 12,u' 13,u' 14,u' 15,u' 16,u' 17,u' 18,u' 19,u' 20,u' 21,u' 22,u' 23,u' 24,u' 25,u' 26,u' 27,u' 28,u' 29,u' 30,.int .i64 (n:Int),.int .i64 ((i:Int)+1),.bool true,.int .i64 (i:Int),.slice g n n,.int .i64 (i:Int),.func (.func 129) #[] #[.pointer (vz+1:Nat),.pointer (vz+1+1:Nat)],u' 38,u' 39,u' 40,u' 41,u' 42,u' 43,u' 44,u' 45,u' 46,u' 47,u' 48,u' 49,u' 50,u' 51,u' 52,u' 53,u' 54,u' 55,u' 56,.int .i64 ((i:Int)+1),u' 58,u' 59,u' 60,u' 61,u' 62,u' 63,u' 64,u' 65,u' 66,u' 67,u' 68]:Array Value).getD k undef,D::al,i+1,xs,fl,rfl,SX.out,ac,RX.out⟩,?_⟩;simp[intOf];omega
end
def oH(r:RecR):Prop:=r.ifs.length<=4/\r.ins.length<=6/\r.outs.length<=6/\r.runs.length<=6
def jR(s:SrcR):Prop:=s.recs.length<=16/\∀r∈s.recs,oH r
def Bp(w:World)(p:Prop)(e:Ending)(w':World):Prop:=eB w w'/\∃b,e=.returned (.bool b)/\(b=true->p)
def aQ.heads{w}{r}(h:aQ w r):∃A1 A2 A3 A4 c1 c2 c3 c4,r.ifv=.slice A1 r.ifs.length c1/\r.inv=.slice A2 r.ins.length c2/\r.outv=.slice A3 r.outs.length c3/\r.runv=.slice A4 r.runs.length c4:=by
 obtain⟨A1,c1,e1⟩:=h.ifs.len;obtain⟨A2,c2,e2⟩:=h.ins.len;obtain⟨A3,c3,e3⟩:=h.outs.len;obtain⟨A4,c4,e4⟩:=h.runs.len;rw[N6]at e1 e2 e3 e4;exact⟨_,_,_,_,_,_,_,_,e1,e2,e3,e4⟩
def Mr(s)(w)(hS:ap w s):Calls prog 23 #[.agg (srcC s).toArray] w (Bp w True):=by
 have aA:(srcC s).toArray.size=8:=rfl;have HS:=MY hS;obtain⟨A1,A2,A3,A4,A5,A6,A7,A8,c1,c2,c3,c4,c5,c6,c7,c8,e1,e2,e3,e4,e5,e6,e7,e8⟩:=hS.slices;have l1:=hS.ul;have l2:=hS.il;have l3:=hS.pl;have l4:=hS.ml;have l5:=hS.ol;have l6:=hS.fl;have l7:=hS.rl;have l8:=hS.sl;unfold BIG at *;obtain⟨n1,h1⟩:=nm s.units.length;obtain⟨n2,h2⟩:=nm s.items.length;obtain⟨n3,h3⟩:=nm s.plants.length;obtain⟨n4,h4⟩:=nm s.machs.length;obtain⟨n5,h5⟩:=nm s.opts.length;obtain⟨n6,h6⟩:=nm s.forbs.length;obtain⟨n7,h7⟩:=nm s.recs.length;obtain⟨n8,h8⟩:=nm s.swaps.length;rw[h1]at e1 l1;rw[h2]at e2 l2;rw[h3]at e3 l3;rw[h4]at e4 l4;rw[h5]at e5 l5;rw[h6]at e6 l6;rw[h7]at e7 l7;rw[h8]at e8 l8;have E:=MY (And.intro e1 (And.intro e5 (And.intro e6 e7)));have HN:=MY (And.intro h1 (And.intro h5 (And.intro h6 h7)));obtain⟨N,hN⟩:=nm w.heap.size;obtain⟨W1,ac⟩:=nm (w.alloc (.cells (srcC s).toArray 31));have K1:=Blk.new w (srcC s) 31;rw[hN,ac]at K1;have KK:=MY K1;have B1:Hid (eB w W1):=by rw[<-ac];exact ak _ _
 have HQ:Hid (∀V,eB W1 V->V.cell? ⟨N,0,none⟩=some (.slice A1 n1 c1)/\V.cell? ⟨N,1,none⟩=some (.slice A2 n2 c2)/\V.cell? ⟨N,2,none⟩=some (.slice A3 n3 c3)/\V.cell? ⟨N,3,none⟩=some (.slice A4 n4 c4)/\V.cell? ⟨N,4,none⟩=some (.slice A5 n5 c5)/\V.cell? ⟨N,5,none⟩=some (.slice A6 n6 c6)/\V.cell? ⟨N,6,none⟩=some (.slice A7 n7 c7)/\V.cell? ⟨N,7,none⟩=some (.slice A8 n8 c8)/\N<V.heap.size):=fun V hV=>by
  have K:=K1.below hV K1.lt;rw[<-e1,<-e2,<-e3,<-e4,<-e5,<-e6,<-e7,<-e8];exact⟨(K.at 0 _ rfl).1,(K.at 1 _ rfl).1,(K.at 2 _ rfl).1,(K.at 3 _ rfl).1,(K.at 4 _ rfl).1,(K.at 5 _ rfl).1,(K.at 6 _ rfl).1,(K.at 7 _ rfl).1,K.lt⟩
 clear hS e1 e2 e3 e4 e5 e6 e7 e8 h1 h2 h3 h4 h5 h6 h7 h8 K1;go_enter func23,ntmps23;go_wp2_with fail;obtain⟨q0,q1,q2,q3,q4,q5,q6,q7,ql⟩:=HQ.out W1 (NB _ _);clear ac;go_loopw [3] (fun z W=>∃k:Nat,k<=n1/\z=.int .i64 k/\W1=W) (fun z _=>n1-(intOf z).toNat)
 case atStart=>exact⟨0,Nu _,rfl,rfl⟩
 case round=>
  obtain⟨k,hk,rfl,rfl⟩:=hrel;by_cases al:k<n1
  case neg=>
   obtain rfl:n1=k:=by omega
   have ab:¬((n1:Int)<(n1:Int)):=by omega
   go_wp2_with fail;go_loopw [4] (fun z W=>∃k:Nat,k<=n5/\z=.int .i64 k/\W1=W) (fun z _=>n5-(intOf z).toNat)
   case atStart=>exact⟨0,Nu _,rfl,rfl⟩
   case round=>
    obtain⟨k,hk,rfl,rfl⟩:=hrel;by_cases al:k<n5
    case neg=>
     obtain rfl:n5=k:=by omega
     have ab:¬((n5:Int)<(n5:Int)):=by omega
     go_wp2_with fail;go_loopw [5] (fun z W=>∃k:Nat,k<=n6/\z=.int .i64 k/\W1=W) (fun z _=>n6-(intOf z).toNat)
     case atStart=>exact⟨0,Nu _,rfl,rfl⟩
     case round=>
      obtain⟨k,hk,rfl,rfl⟩:=hrel;by_cases al:k<n6
      case neg=>
       obtain rfl:n6=k:=by omega
       have ab:¬((n6:Int)<(n6:Int)):=by omega
       go_wp2_with fail;clear q0 q1 q2 q3 q4 q5 q6 q7 ql;go_loopw [6] (fun z W=>∃k:Nat,k<=n7/\z=.int .i64 k/\Hid (eB W1 W)) (fun z _=>n7-(intOf z).toNat)
       case atStart=>exact⟨0,Nu _,rfl,NB _ _⟩
       case round=>
        obtain⟨k,hk,rfl,B⟩:=hrel;obtain⟨q0,q1,q2,q3,q4,q5,q6,q7,ql⟩:=HQ.out _ B.out;by_cases al:k<n7
        case neg=>
         obtain rfl:n7=k:=by omega
         have ab:¬((n7:Int)<(n7:Int)):=by omega
         obtain⟨b1,g1⟩:=nm (decide ((n1:Int)<=40));obtain⟨b2,g2⟩:=nm (decide ((n2:Int)<=40));obtain⟨b3,g3⟩:=nm (decide ((n3:Int)<=10));obtain⟨b4,g4⟩:=nm (decide ((n4:Int)<=20));obtain⟨b5,g5⟩:=nm (decide ((n5:Int)<=8));obtain⟨b6,g6⟩:=nm (decide ((n6:Int)<=20));obtain⟨b7,g7⟩:=nm (decide ((n7:Int)<=70));obtain⟨b8,g8⟩:=nm (decide ((n8:Int)<=70));have BT:=MY (B1.trans (B.mono B1.size))
         cases b1 with
         |false=>
          go_wp2
          go_ret
          exact⟨BT.out,_,rfl,fun _=>trivial⟩
         |true=>
         cases b2 with
         |false=>
          go_wp2
          go_ret
          exact⟨BT.out,_,rfl,fun _=>trivial⟩
         |true=>
         cases b3 with
         |false=>
          go_wp2
          go_ret
          exact⟨BT.out,_,rfl,fun _=>trivial⟩
         |true=>
         cases b4 with
         |false=>
          go_wp2
          go_ret
          exact⟨BT.out,_,rfl,fun _=>trivial⟩
         |true=>
         cases b5 with
         |false=>
          go_wp2
          go_ret
          exact⟨BT.out,_,rfl,fun _=>trivial⟩
         |true=>
         cases b6 with
         |false=>
          go_wp2
          go_ret
          exact⟨BT.out,_,rfl,fun _=>trivial⟩
         |true=>
         cases b7 with
         |false=>
          go_wp2
          go_ret
          exact⟨BT.out,_,rfl,fun _=>trivial⟩
         |true=>
         go_wp2;go_ret;exact⟨BT.out,_,rfl,fun _=>trivial⟩
        obtain⟨ad,ag⟩:=ix (k:=k) (n:=n7);obtain⟨r,hr⟩:=gx (l:=s.recs) (i:=k) (by have:=HN.2.2.2;omega);obtain⟨bb,off,rfl,hc⟩:=(HS.below B1.out).recs.rng E.2.2.2 (i:=k) (x:=am r) (by rw[Ou,hr];rfl);have HC:=MY (hc _ B.out);have an:=(HS.below B1.out).recv r (Oc hr);have av:=MY (io an);obtain⟨F1,F2,F3,F4,d1,d2,d3,d4,m1,m2,m3,m4,z1,z2,z3,z4,_⟩:=an.slices';obtain⟨xb,ar⟩:=nm wr.heap.size;obtain⟨W2,ao⟩:=nm (wr.alloc (.cells (am r).toArray 55));have X2:=Blk.new wr (am r) 55;rw[ar,ao]at X2;have B2:Hid (eB W1 W2):=by rw[<-ao];exact B.alloc B.size _
        have y4:W2.cell? ⟨xb,4,none⟩=some (.slice F1 m1 d1):=by rw[<-z1];exact(X2.at 4 _ rfl).1
        have y5:W2.cell? ⟨xb,5,none⟩=some (.slice F2 m2 d2):=by rw[<-z2];exact(X2.at 5 _ rfl).1
        have y6:W2.cell? ⟨xb,6,none⟩=some (.slice F3 m3 d3):=by rw[<-z3];exact(X2.at 6 _ rfl).1
        have ba:W2.cell? ⟨xb,14,none⟩=some (.slice F4 m4 d4):=by rw[<-z4];exact(X2.at 14 _ rfl).1
        have yl:=X2.lt;have ax:(am r).toArray.size=17:=rfl;have BT:=MY (B1.trans (B2.mono B1.size));obtain⟨b1,g1⟩:=nm (decide ((8:Int)<(m1:Int)));obtain⟨b2,g2⟩:=nm (decide ((10:Int)<(m2:Int)));obtain⟨b3,g3⟩:=nm (decide ((10:Int)<(m3:Int)));obtain⟨b4,g4⟩:=nm (decide ((20:Int)<(m4:Int)));clear hr hc an z1 z2 z3 z4 X2;go_upto_region 20 with(first|(refine wR 55 HC.out ?_)|(refine wB ar av.out ?_))
        cases b1 with
        |true=>
         go_wp2
         go_ret
         exact⟨BT.out,_,rfl,fun _=>trivial⟩
        |false=>
        cases b2 with
        |true=>
         go_wp2
         go_ret
         exact⟨BT.out,_,rfl,fun _=>trivial⟩
        |false=>
        cases b3 with
        |true=>
         go_wp2
         go_ret
         exact⟨BT.out,_,rfl,fun _=>trivial⟩
        |false=>
        cases b4 with
        |true=>
         go_wp2
         go_ret
         exact⟨BT.out,_,rfl,fun _=>trivial⟩
        |false=>
        go_wp2_with fail;refine⟨⟨k+1,by omega,by go_num,B2.out⟩,?_⟩;simp[intOf];omega
      obtain⟨ad,ag⟩:=ix (k:=k) (n:=n6);obtain⟨f,hf⟩:=gx (l:=s.forbs) (i:=k) (by have:=HN.2.2.1;omega);obtain⟨bb,off,rfl,hc⟩:=(HS.below B1.out).forbs.rng E.2.2.1 (i:=k) (x:=gc f) (by rw[Ou,hf];rfl);have y0:=hc _ (NB _ _) 0 _ rfl;simp only[Ov,Na]at y0;obtain⟨F1,d1,z1⟩:=(HS.forb f (Oc hf)).1.len;rw[z1]at y0;obtain⟨b1,g1⟩:=nm (decide ((8:Int)<((f.conds.map aT).length:Int)));generalize (f.conds.map aT).length=m1 at *;clear hf hc z1
      cases b1 with
      |true=>
       go_wp2
       go_ret
       exact⟨B1.out,_,rfl,fun _=>trivial⟩
      |false=>
      go_wp2_with fail;refine⟨⟨k+1,by omega,by go_num,trivial⟩,?_⟩;simp[intOf];omega
    obtain⟨ad,ag⟩:=ix (k:=k) (n:=n5);obtain⟨o,ho⟩:=gx (l:=s.opts) (i:=k) (by have:=HN.2.1;omega);obtain⟨bb,off,rfl,hc⟩:=(HS.below B1.out).opts.rng E.2.1 (i:=k) (x:=bX o) (by rw[Ou,ho];rfl);have y0:=hc _ (NB _ _) 1 _ rfl;obtain⟨F1,d1,z1⟩:=(HS.opt o (Oc ho)).1.len;rw[z1]at y0;obtain⟨b1,g1⟩:=nm (decide ((6:Int)<((o.choices.map bF).length:Int)));generalize (o.choices.map bF).length=m1 at *;clear ho hc z1
    cases b1 with
    |true=>
     go_wp2
     go_ret
     exact⟨B1.out,_,rfl,fun _=>trivial⟩
    |false=>
    go_wp2_with fail;refine⟨⟨k+1,by omega,by go_num,trivial⟩,?_⟩;simp[intOf];omega
  obtain⟨ad,ag⟩:=ix (k:=k) (n:=n1);obtain⟨u,hu⟩:=gx (l:=s.units) (i:=k) (by have:=HN.1;omega);obtain⟨bb,off,rfl,hc⟩:=(HS.below B1.out).units.rng E.1 (i:=k) (x:=aW u) (by rw[Ou,hu];rfl);have y6:=hc _ (NB _ _) 6 _ rfl;have y7:=hc _ (NB _ _) 7 _ rfl;obtain⟨b1,g1⟩:=nm (decide ((60:Int)<(u.sn.size:Int)));obtain⟨b2,g2⟩:=nm (decide ((60:Int)<(u.sd.size:Int)));clear hu hc
  cases b1 with
  |true=>
   go_wp2
   go_ret
   exact⟨B1.out,_,rfl,fun _=>trivial⟩
  |false=>
  cases b2 with
  |true=>
   go_wp2
   go_ret
   exact⟨B1.out,_,rfl,fun _=>trivial⟩
  |false=>
  go_wp2_with fail;refine⟨⟨k+1,by omega,by go_num,trivial⟩,?_⟩;simp[intOf];omega
def Mt(s)(w)(hS:ap w s):Calls prog 5 #[.agg (srcC s).toArray] w (Bp w (jR s)):=by
 have ar:(srcC s).toArray.size=8:=rfl;have HS:=MY hS;obtain⟨A1,A2,A3,A4,A5,A6,A7,A8,c1,c2,c3,c4,c5,c6,c7,c8,e1,e2,e3,e4,e5,e6,e7,e8⟩:=hS.slices;have l1:=hS.ul;have l2:=hS.il;have l3:=hS.pl;have l4:=hS.ml;have l5:=hS.ol;have l6:=hS.fl;have l7:=hS.rl;have l8:=hS.sl;unfold BIG at *;obtain⟨n1,h1⟩:=nm s.units.length;obtain⟨n2,h2⟩:=nm s.items.length;obtain⟨n3,h3⟩:=nm s.plants.length;obtain⟨n4,h4⟩:=nm s.machs.length;obtain⟨n5,h5⟩:=nm s.opts.length;obtain⟨n6,h6⟩:=nm s.forbs.length;obtain⟨n7,h7⟩:=nm s.recs.length;obtain⟨n8,h8⟩:=nm s.swaps.length;rw[h1]at e1 l1;rw[h2]at e2 l2;rw[h3]at e3 l3;rw[h4]at e4 l4;rw[h5]at e5 l5;rw[h6]at e6 l6;rw[h7]at e7 l7;rw[h8]at e8 l8;have E:=MY (And.intro e1 (And.intro e5 (And.intro e6 e7)));have HN:=MY (And.intro h1 (And.intro h5 (And.intro h6 h7)));obtain⟨N,hN⟩:=nm w.heap.size;obtain⟨W1,ab⟩:=nm (w.alloc (.cells (srcC s).toArray 31));have K1:=Blk.new w (srcC s) 31;rw[hN,ab]at K1;have KK:=MY K1;have B1:Hid (eB w W1):=by rw[<-ab];exact ak _ _
 have HQ:Hid (∀V,eB W1 V->V.cell? ⟨N,0,none⟩=some (.slice A1 n1 c1)/\V.cell? ⟨N,1,none⟩=some (.slice A2 n2 c2)/\V.cell? ⟨N,2,none⟩=some (.slice A3 n3 c3)/\V.cell? ⟨N,3,none⟩=some (.slice A4 n4 c4)/\V.cell? ⟨N,4,none⟩=some (.slice A5 n5 c5)/\V.cell? ⟨N,5,none⟩=some (.slice A6 n6 c6)/\V.cell? ⟨N,6,none⟩=some (.slice A7 n7 c7)/\V.cell? ⟨N,7,none⟩=some (.slice A8 n8 c8)/\N<V.heap.size):=fun V hV=>by
  have K:=K1.below hV K1.lt;rw[<-e1,<-e2,<-e3,<-e4,<-e5,<-e6,<-e7,<-e8];exact⟨(K.at 0 _ rfl).1,(K.at 1 _ rfl).1,(K.at 2 _ rfl).1,(K.at 3 _ rfl).1,(K.at 4 _ rfl).1,(K.at 5 _ rfl).1,(K.at 6 _ rfl).1,(K.at 7 _ rfl).1,K.lt⟩
 clear hS e1 e2 e3 e4 e5 e6 e7 e8 h1 h2 h3 h4 h5 h6 h7 h8 K1;have HF:=MY (Mr s W1 (HS.below B1.out));go_enter func5,ntmps5;go_wp2_with fail;obtain⟨q0,q1,q2,q3,q4,q5,q6,q7,ql⟩:=HQ.out W1 (NB _ _);clear ab;go_loopw [3] (fun z W=>∃k:Nat,k<=n7/\z=.int .i64 k/\Hid (∀r∈s.recs.take k,oH r)/\W1=W) (fun z _=>n7-(intOf z).toNat)
 case atStart=>exact⟨0,Nu _,rfl,(by show ∀r∈List.take 0 s.recs,_;simp),rfl⟩
 case round=>
  obtain⟨k,hk,rfl,HK,rfl⟩:=hrel;by_cases an:k<n7
  case neg=>
   obtain rfl:n7=k:=by omega
   have ad:¬((n7:Int)<(n7:Int)):=by omega
   go_wp2_with fail;go_loopw [4] (fun z W=>∃k:Nat,k<=n5/\z=.int .i64 k/\W1=W) (fun z _=>n5-(intOf z).toNat)
   case atStart=>exact⟨0,Nu _,rfl,rfl⟩
   case round=>
    obtain⟨k,hk,rfl,rfl⟩:=hrel;by_cases an:k<n5
    case neg=>
     obtain rfl:n5=k:=by omega
     have ad:¬((n5:Int)<(n5:Int)):=by omega
     clear q0 q1 q2 q3 q5 q6 q7;go_wp2_with (refine wR 31 (ai KK.out) ?_);refine HF.mono ?_;rintro e w2 ⟨ac,b0,rfl,_⟩;have BT:=MY (B1.trans (ac.mono B1.size));obtain⟨q0,q1,q2,q3,q4,q5,q6,q7,ql⟩:=HQ.out _ ac;clear ac;obtain⟨b1,g1⟩:=nm (decide ((n1:Int)<=6));obtain⟨b2,g2⟩:=nm (decide ((n2:Int)<=5));obtain⟨b3,g3⟩:=nm (decide ((n3:Int)<=3));obtain⟨b4,g4⟩:=nm (decide ((n4:Int)<=4));obtain⟨b5,g5⟩:=nm (decide ((n5:Int)<=3));obtain⟨b6,g6⟩:=nm (decide ((n6:Int)<=4));obtain⟨b7,g7⟩:=nm (decide ((n7:Int)<=16));obtain⟨b8,g8⟩:=nm (decide ((n8:Int)<=8))
     cases b0 with
     |false=>
      go_wp2
      go_ret
      exact⟨BT.out,_,rfl,fun h=>by cases h⟩
     |true=>
     cases b1 with
     |false=>
      go_wp2
      go_ret
      exact⟨BT.out,_,rfl,fun h=>by cases h⟩
     |true=>
     cases b2 with
     |false=>
      go_wp2
      go_ret
      exact⟨BT.out,_,rfl,fun h=>by cases h⟩
     |true=>
     cases b3 with
     |false=>
      go_wp2
      go_ret
      exact⟨BT.out,_,rfl,fun h=>by cases h⟩
     |true=>
     cases b4 with
     |false=>
      go_wp2
      go_ret
      exact⟨BT.out,_,rfl,fun h=>by cases h⟩
     |true=>
     cases b5 with
     |false=>
      go_wp2
      go_ret
      exact⟨BT.out,_,rfl,fun h=>by cases h⟩
     |true=>
     cases b6 with
     |false=>
      go_wp2
      go_ret
      exact⟨BT.out,_,rfl,fun h=>by cases h⟩
     |true=>
     cases b7 with
     |false=>
      go_wp2
      go_ret
      exact⟨BT.out,_,rfl,fun h=>by cases h⟩
     |true=>
     go_wp2;go_ret;refine⟨BT.out,_,rfl,fun _=>⟨?_,?_⟩⟩
     ·rw[HN.2.2.2];have:=of_decide_eq_true g7;omega
     ·have:=HK.out;rw[<-HN.2.2.2,OK]at this;exact this
    obtain⟨ag,al⟩:=ix (k:=k) (n:=n5);obtain⟨o,ho⟩:=gx (l:=s.opts) (i:=k) (by have:=HN.2.1;omega);obtain⟨bb,off,rfl,hc⟩:=(HS.below B1.out).opts.rng E.2.1 (i:=k) (x:=bX o) (by rw[Ou,ho];rfl);have y0:=hc _ (NB _ _) 1 _ rfl;obtain⟨F1,d1,z1⟩:=(HS.opt o (Oc ho)).1.len;rw[z1]at y0;obtain⟨b1,g1⟩:=nm (decide ((3:Int)<((o.choices.map bF).length:Int)));generalize (o.choices.map bF).length=m1 at *;clear ho hc z1
    cases b1 with
    |true=>
     go_wp2
     go_ret
     exact⟨B1.out,_,rfl,fun h=>by cases h⟩
    |false=>
    go_wp2_with fail;refine⟨⟨k+1,by omega,by go_num,trivial⟩,?_⟩;simp[intOf];omega
  obtain⟨ag,al⟩:=ix (k:=k) (n:=n7);obtain⟨r,hr⟩:=gx (l:=s.recs) (i:=k) (by have:=HN.2.2.2;omega);obtain⟨bb,off,rfl,hc⟩:=(HS.below B1.out).recs.rng E.2.2.2 (i:=k) (x:=am r) (by rw[Ou,hr];rfl);obtain⟨F1,F2,F3,F4,d1,d2,d3,d4,z1,z2,z3,z4⟩:=(HS.recv r (Oc hr)).heads;obtain⟨m1,x1⟩:=nm r.ifs.length;rw[x1]at z1;have y4:=hc _ (NB _ _) 4 _ rfl;rw[z1]at y4;obtain⟨m2,x2⟩:=nm r.ins.length;rw[x2]at z2;have y5:=hc _ (NB _ _) 5 _ rfl;rw[z2]at y5;obtain⟨m3,x3⟩:=nm r.outs.length;rw[x3]at z3;have y6:=hc _ (NB _ _) 6 _ rfl;rw[z3]at y6;obtain⟨m4,x4⟩:=nm r.runs.length;rw[x4]at z4;have ao:=hc _ (NB _ _) 14 _ rfl;rw[z4]at ao;have HX:=MY (And.intro x1 (And.intro x2 (And.intro x3 x4)));have HR:=MY hr;obtain⟨b1,g1⟩:=nm (decide ((4:Int)<(m1:Int)));obtain⟨b2,g2⟩:=nm (decide ((6:Int)<(m2:Int)));obtain⟨b3,g3⟩:=nm (decide ((6:Int)<(m3:Int)));obtain⟨b4,g4⟩:=nm (decide ((6:Int)<(m4:Int)));clear hr hc z1 z2 z3 z4 x1 x2 x3 x4
  cases b1 with
  |true=>
   go_wp2
   go_ret
   exact⟨B1.out,_,rfl,fun h=>by cases h⟩
  |false=>
  cases b2 with
  |true=>
   go_wp2
   go_ret
   exact⟨B1.out,_,rfl,fun h=>by cases h⟩
  |false=>
  cases b3 with
  |true=>
   go_wp2
   go_ret
   exact⟨B1.out,_,rfl,fun h=>by cases h⟩
  |false=>
  cases b4 with
  |true=>
   go_wp2
   go_ret
   exact⟨B1.out,_,rfl,fun h=>by cases h⟩
  |false=>
  go_wp2_with fail;refine⟨⟨k+1,by omega,by go_num,?_,trivial⟩,?_⟩
  ·show ∀r∈List.take (k+1) s.recs,_;rw[Ox,HR.out];intro q hq;rcases Of.1 hq with hq|hq
   ·exact HK.out q hq
   ·simp only[Option.toList_some,Oi]at hq;subst hq;obtain⟨x1,x2,x3,x4⟩:=HX.out;have t1:=of_decide_eq_false g1;have t2:=of_decide_eq_false g2;have t3:=of_decide_eq_false g3;have t4:=of_decide_eq_false g4;exact⟨by omega,by omega,by omega,by omega⟩
  ·simp[intOf];omega
def jR.small{s}(h:jR s):lM s:=⟨by have:=h.1;omega,fun r hr=>by have:=h.2 r hr;unfold oH at this;omega⟩
def rh(x:In):Prop:=∀k,bD x k=true
def okI:List In->Nat->Prop
 |[],_=>True
 |x::l,m=>bD x ((l.length:Int)+m)=true/\okI l m
def u9:∀{a b:List In} {m:Nat},okI a (b.length+m)->okI b m->okI (a++b) m
 |[],_,_,_,h=>h
 |x::a,b,m,⟨h1,h2⟩,h=>by
  refine⟨?_,u9 h2 h⟩;show bD x (((a++b).length:Int)+(m:Int))=true;have e:((a++b).length:Int)+(m:Int)=(a.length:Int)+((b.length+m:Nat):Int):=by rw[Oe];omega
  rw[e];exact h1
def Bq:∀{l:List In} {m:Nat},(∀x∈l,rh x)->okI l m
 |[],_,_=>trivial
 |x::l,m,h=>⟨h x (by simp) _,Bq fun y hy=>h y (by simp[hy])⟩
def Br:∀{l:List In} {m i:Nat} {x:In},okI l m->l[i]? = some x->bD x ((l.length:Int)-1-i+m)=true
 |[],_,_,_,_,h=>by simp at h
 |y::l,m,0,x,⟨h1,_⟩,h=>by
  simp only[Oj,Option.some.injEq]at h;subst h;have e:((y::l).length:Int)-1-((0:Nat):Int)+(m:Int)=(l.length:Int)+m:=by simp only[M6];omega
  rw[e];exact h1
 |y::l,m,i+1,x,⟨_,h2⟩,h=>by
  rw[Ok]at h;have:=Br h2 h;have e:((y::l).length:Int)-1-((i+1:Nat):Int)+(m:Int)=(l.length:Int)-1-i+m:=by simp only[M6];omega
  rw[e];exact this
def Bt{b:List In}(hb:∀x∈b,rh x)(h0:0<b.length){m:Nat}(hm:0<m):∀{ts:List In},(∀t∈ts,∃A B:Int,t=dz A B/\btw A (-2) 5=true/\btw B 0 1024=true)->okI (cy ts b) m
 |[],_=>Bq hb
 |t::ts,h=>by
  obtain⟨A,B,rfl,hA,hB⟩:=h _ (List.mem_cons_self ..);refine⟨?_,?_,Bt hb h0 hm fun t ht=>h t (by simp[ht])⟩
  ·unfold bD dz;simp only[if_true,hA,hB,Np,decide_eq_true_eq,M6,i8];omega
  ·unfold bD fJ;simp only[i8];simp;omega
def rm{x a b:Int}(h1:a<=x)(h2:x<=b):btw x a b=true:=by unfold btw;simp only[Ob,decide_eq_true_eq];omega
def ru{x:Int}{n m:Nat}(h:aZ x n=true)(hm:n<=m+1):btw x 0 m=true:=by
 unfold aZ at h;simp only[Ob,decide_eq_true_eq]at h;exact rm (by omega) (by omega)
def vc{x:Rt}(h:x.ok)(hn:x.neg=false):alz x.neg (bs x.n) (bs x.d)=true:=rY.2 ⟨bN.of h,hn⟩
def ve{s}(ht:TypesOk s){op:Int}{bk:aw->Int}(ab:op=4/\bk=gi\/op=5/\bk=fun _=>0):∀{l:List aw} {m:List In},(∀a∈l,bM s a=true)->amtsI s op bk l=some m->∀x∈m,rh x
 |[],m,_,h=>by cases h;simp
 |a::l,m,hl,h=>by
  simp only[amtsI]at h;split at h
  ·rename_i x hx;split at h
   ·rename_i m' hm
    cases h;intro y hy;rcases Og.1 hy with rfl|hy
    ·have h1:=gJ ht.1 (hl a (by simp)) hx;have h2:aZ a.itemNo s.items.length=true:=by
      obtain⟨ii,uu,iu,nn,dn,it,u,v,g1,g2,_⟩:=nB (hl a (by simp));have:=(NQ.1 g2).1;unfold aZ;rw[g1];simp only[Ob,decide_eq_true_eq];omega
     have h3:s.items.length<=32:=by
      have:=ht.2.1;unfold dG at this;simp only[Ob,decide_eq_true_eq]at this;omega
     have h4:=ru (m:=31) h2 h3;intro k;rcases ab with⟨rfl,rfl⟩|⟨rfl,rfl⟩
     ·unfold bD bO;simp only[vc h1.1 h1.2.1];have h5:btw (gi a) 0 1=true:=by unfold gi;split <;> rfl
      simp[h5,show btw a.itemNo 0 31=true from h4]
     ·unfold bD bO;simp only[vc h1.1 h1.2.1];simp[show btw a.itemNo 0 31=true from h4]
    ·exact ve ht ab (fun b hb=>hl b (by simp[hb])) hm y hy
   ·cases h
  ·cases h
def Bu{a b c}(h:mulR a b=some c)(ha:a.neg=false)(hb:b.neg=false):c.neg=false:=by
 unfold mulR at h;split at h
 ·cases h;rw[ha,hb];simp[lowR]
 ·cases h
def jS{s}(ht:TypesOk s){r}(hm:r∈s.recs):bG s r=true:=by
 have:=ht.2.2;unfold fF at this;simp only[Ob,Od]at this;exact this.2.2.2.2.1 r hm
def Bv{s}{r}{g}(ht:TypesOk s)(hO:im s r)(hg:goodR s r=some g):g.neg=false:=by
 unfold goodR at hg;split at hg
 ·rename_i a ha;split at hg
  ·rename_i x hx;obtain⟨⟨a0,ab,ac⟩,_⟩:=hO;rw[ha]at ab
   cases ab;exact Bu hg (gJ ht.1 ac hx).2.1 (by simp[lowR])
  ·cases hg
 ·cases hg
def Mu{s}(ht:TypesOk s){r}(hm:r∈s.recs){no:Nat}(ag:no<64){b:List In}(h:bodyR s no r=some b):∀x∈b,rh x:=by
 have hr:=jS ht hm;have hO:=lK hr;have ad:s.machs.length<=16:=by
  have:=ht.2.1;unfold dG at this;simp only[Ob,decide_eq_true_eq]at this;omega
 unfold bG at hr;simp only[Ob,Od]at hr;obtain⟨_,_,h1,h2,_,_,_,h3,h4⟩:=hr;unfold km at h2;unfold nj at h4;simp only[Ob,Od]at h2 h4;unfold bodyR at h;split at h
 ·rename_i g hg;split at h
  ·rename_i u hu;split at h
   ·rename_i o ho
    cases h;have ab:=qw ht.1 hO hg;have ac:=Bv ht hO hg;intro x hx;simp only[Og,Of,Oh,or_false]at hx;rcases hx with rfl|hx|hx|hx|rfl
    ·intro k;unfold bD bO;have e1:(bs g.n).toList.isEmpty=false:=by rw[iN];simp[ab.2]
     simp only[vc ab.1 ac,e1];have e2:btw (no:Int) 0 63=true:=rm (by omega) (by omega);simp[e2,show btw r.lead 0 15=true from h3]
    ·exact ve ht (.inl ⟨rfl,rfl⟩) (fun a ha=>h1 a ha) hu x hx
    ·exact ve ht (.inr ⟨rfl,rfl⟩) (fun a ha=>(h2.2.1 a ha).1) ho x hx
    ·unfold dU at hx;obtain⟨y,hy,rfl⟩:=OE.1 hx;have:=h4.1 y hy;unfold nh at this;simp only[Ob]at this;have e1:=ru (m:=15) this.1.1 ad;intro k;unfold bD opI;simp[show btw y.machNo 0 15=true from e1,this.2]
    ·intro k;unfold bD opI;simp
   ·cases h
  ·cases h
 ·cases h
def Mv{s}(ht:TypesOk s){r}(hm:r∈s.recs):∀t∈ct r,∃A B:Int,t=dz A B/\btw A (-2) 5=true/\btw B 0 1024=true:=by
 have hr:=jS ht hm;have hw:=ht.2.1;unfold dG at hw;unfold bG ic lC at hr;simp only[Ob,Od,decide_eq_true_eq]at hr hw;obtain⟨⟨_,⟨h1,h2⟩,h3⟩,⟨h4,_⟩,_⟩:=hr;intro t ab;unfold ct at ab;simp only[Of,Og,Oh,or_false,OE]at ab;rcases ab with(rfl|rfl)|⟨x,hx,rfl⟩
 ·exact⟨_,_,rfl,rfl,rm h1 (by omega)⟩
 ·exact⟨_,_,rfl,rfl,rm (by omega) h3⟩
 ·have h5:=h4 x hx;refine⟨_,_,rfl,?_,?_⟩
  ·have:=ru (m:=5) h5.1 hw.2.2.2.1;unfold btw at this⊢;simp only[Ob,decide_eq_true_eq]at this⊢;omega
  ·have h6:=h5.2;split at h6
   ·rename_i o ho;have h7:=hw.2.2.2.2.1 o (Oc ho);have:=ru (m:=3) h6 h7;unfold btw at this⊢;simp only[Ob,decide_eq_true_eq]at this⊢;omega
   ·cases h6
def ry{s}(ht:TypesOk s)(hf:jR s){item plant:Int}:∀{l:List RecR} {k:Nat} {c:List In} {m:Nat},(∀r∈l,r∈s.recs)->k+l.length<=64->0<m->codeFrom s item plant l k=some c->okI c m/\c.length<=l.length*32/\(c=[]->∀r∈l,¬(r.itemNo=item/\r.plantNo=plant))
 |[],_,_,_,_,_,_,h=>by cases h;exact⟨trivial,by simp,fun _ r hr=>by simp at hr⟩
 |r::l,k,c,m,hl,hk,hm,h=>by
  rw[M6]at hk;simp only[codeFrom]at h;split at h
  ·split at h
   ·rename_i b hb;split at h
    ·rename_i c2 hc2
     cases h;have h1:=ry ht hf (m:=m) (fun q hq=>hl q (by simp[hq])) (by omega) hm hc2;have hr:=hl r (by simp);have h2:=tB hb;have h3:=hf.2 r hr;unfold oH at h3;have h4:(ct r).length=2+r.ifs.length:=by simp[ct];omega
     refine⟨u9 (Bt (Mu ht hr (by omega) hb) (by omega) (by omega) (Mv ht hr)) h1.1,?_,fun e=>?_⟩
     ·rw[Oe,i8,M6,Nat.succ_mul];omega
     ·have:=congrArg List.length e;rw[Oe,i8]at this;simp only[ND]at this;omega
    ·cases h
   ·cases h
  ·rename_i hn;have h1:=ry ht hf (fun q hq=>hl q (by simp[hq])) (by omega) hm h;refine⟨h1.1,by rw[M6,Nat.succ_mul];omega,fun e q hq=>?_⟩;rcases Og.1 hq with rfl|hq
   ·exact hn
   ·exact h1.2.2 e q hq
def code_ok{s}(ht:TypesOk s)(hf:jR s){item plant:Int}{c:List In}(h:codeR s item plant=some c):c.length<=4096/\(c=[]/\(∀r∈s.recs,¬(r.itemNo=item/\r.plantNo=plant))\/eN c/\¬ ∀r∈s.recs,¬(r.itemNo=item/\r.plantNo=plant)):=by
 unfold codeR at h;have hl:=hf.1;split at h
 ·rename_i h0
  cases h;exact⟨by simp,.inl ⟨rfl,(ry ht hf (m:=1) (fun r hr=>hr) (by omega) (by omega) h0).2.2 rfl⟩⟩
 ·rename_i x c' h0
  cases h;have h1:=ry ht hf (m:=1) (fun r hr=>hr) (by omega) (by omega) h0;have h2:(x::c'++[opI 8 0 0]).length<=4096:=by
   rw[Oe,OP];have:s.recs.length*32<=16*32:=Nd 32 hl;omega
  refine⟨h2,.inr ⟨⟨by simp,h2,fun i y hy=>?_,fun y hy=>?_⟩,fun hn=>?_⟩⟩
  ·have:=Br (m:=0) (u9 (b:=[opI 8 0 0]) h1.1 ⟨by unfold bD opI;simp,trivial⟩) hy;have e:((x::c'++[opI 8 0 0]).length:Int)-1-(i:Int)+((0:Nat):Int)=((x::c'++[opI 8 0 0]).length:Int)-1-(i:Int):=by omega
   rw[e]at this;exact this
  ·rw[Oe,OP,Nat.add_sub_cancel,N5 (No _),Nat.sub_self]at hy
   cases hy;exact .inr rfl
  ·rw[Bo _ _ hn]at h0
   cases h0
 ·cases h
def By{s}:∀{n:Nat} {l:List (List In)} {q:Nat},codesTo s n=some l->q<n->∃c,l[q]? = some c/\codeR s ((q/8:Nat):Int) ((q%8:Nat):Int)=some c
 |0,_,_,_,h=>by omega
 |n+1,l,q,h,hq=>by
  simp only[codesTo]at h;split at h
  ·rename_i l' hl;have ab:=qm hl;split at h
   ·rename_i c hc
    cases h;by_cases e:q=n
    ·subst e;exact⟨c,by rw[N5 (by omega),ab,Nat.sub_self];rfl,hc⟩
    ·obtain⟨c',h1,h2⟩:=By hl (show q<n by omega);exact⟨c',by rw[N4 (by omega)];exact h1,h2⟩
   ·cases h
  ·cases h
def Mw{s}(ht:TypesOk s)(hf:jR s)(hn:iW s){i p d:Int}{c:List Int}(h0:0<=d)(h1:d<1024)(hv:cI s c=true){code:List In}(hc:codeR s i p=some code)(hw:bV s i p d c=[]):code=[]:=by
 rcases(code_ok ht hf hc).2 with h|h
 ·exact h.1
 ·refine absurd (fun r hr hip=>?_) h.2;have hp:iV s i p=true:=by
   unfold iV;rw[List.any_eq_true];have hb:=jS ht hr;unfold bG at hb;simp only[Ob]at hb;obtain⟨rfl,rfl⟩:=hip;exact⟨r,hr,by simp only[hb.1.1.1,hb.1.1.2,decide_true,Bool.and_self]⟩
  have:=hn.one hp h0 h1 hv;rw[hw]at this
  cases this
def Mx{s}(hn:iW s)(ht:TypesOk s){i p d:Int}{c:List Int}(h0:0<=d)(h1:d<1024)(hv:cI s c=true):(bV s i p d c).length<=1:=by
 by_cases h:∀r∈s.recs,¬(r.itemNo=i/\r.plantNo=p)
 ·rw[FT h];simp
 ·have hp:iV s i p=true:=by
   unfold iV;rw[List.any_eq_true];refine Classical.byContradiction fun hx=>h fun r hr hip=>hx ?_;have hb:=jS ht hr;unfold bG at hb;simp only[Ob]at hb;obtain⟨rfl,rfl⟩:=hip;exact⟨r,hr,by simp only[hb.1.1.1,hb.1.1.2,decide_true,Bool.and_self]⟩
  rw[hn.one hp h0 h1 hv];exact No _
def My{s}(ht:TypesOk s)(hf:jR s){i p d:Int}{c:List Int}{code:List In}{k:Nat}{n dd}(hr:bN false n dd)(hc:codeR s i p=some code)(hw:bV s i p d c=[k]) :code≠[]/\∃r g,s.recs[k]? = some r/\r∈s.recs/\goodR s r=some g/\kT s r g ⟨false,bv n,bv dd⟩ (cG code (c++[d]) false n dd 4096):=by
 have hi:∀q∈s.recs,∀x∈q.ifs,0<=x.optNo:=fun q hq x hx=>by
  have hb:=jS ht hq;unfold bG ic lC aZ at hb;simp only[Ob,Od,decide_eq_true_eq]at hb;exact(hb.2.1.1 x hx).1.1
 obtain⟨r,g,b,h1,h2,_,h4,h5,h6⟩:=Mq (amt:=⟨false,bv n,bv dd⟩) hc hi hw;have hm:=Oc h1;obtain⟨hl,h|h⟩:=code_ok ht hf hc
 ·exact absurd ⟨h4,h5⟩ (h.2 r hm)
 ·refine⟨fun e=>?_,r,g,h1,hm,h2,?_⟩
  ·have:=h.1.1;rw[e]at this;simp at this
  ·rw[jt h.1 hr (by simp)];simp only[List.dropLast_concat,List.getLast?_concat,Ot];exact h6 _ _ (No _) (by show _<=4096;exact hl)
end Go.Proofs.YtgbbhcbkldhjiaaGreatDoor
