/- For all tables, items, plants, days, configurations and amounts MachineRecipe returns true; condition: the bulk of the arguments is at most 1048576, as the given second form says. Step lemmas of these texts have default arguments, which discharge side conditions. -/
import Derived.Test.YtgbbhcbkldhjiaaGreatDoorK14
import Derived.Test.YtgbbhcbkldhjiaaGreatDoorTie
import Derived.Test.YtgbbhcbkldhjiaaGreatDoorCards
import Derived.Deep.DeepHandedRow
import Derived.Deep.DeepWitnessRowRef
set_option linter.all false
set_option maxRecDepth 100000
set_option maxHeartbeats 16000000
namespace Go.Proofs.YtgbbhcbkldhjiaaGreatDoor
open Go.Proofs.Tryz Go.RowKit Bf
theorem MT(t:cT)(item plant day ec:Int)(neg:Bool)(n d)(w)(hV:cW w t)(hT:Tab w)(he:ec<=9223372036854775807) :Calls prog 3 #[.agg (aL t).toArray,.int .i64 item,.int .i64 plant,.int .i64 day,.int .i64 ec,.agg #[.bool neg,.string n,.string d]] w (Ret w (.bool true)):=by
 have nd:=nT;have ow:(aL t).toArray.size=10:=rfl;obtain⟨N,hN⟩:=nm w.heap.size;obtain⟨W1,fc⟩:=nm ((w.alloc (.cells (aL t).toArray 35)).alloc (.cells #[.bool neg,.string n,.string d] 37));have S:Hid (eB w W1/\Tab W1/\cW W1 t/\Blk W1 N (aL t) 35/\Blk W1 (N+1) [.bool neg,.string n,.string d] 37):=by
  have hb:eB w W1:=by rw[<-fc];exact((NB w.heap.size w).alloc (No _) _).alloc (by simp) _
  refine⟨hb,hT.below hb,hV.below hb,?_,?_⟩
  ·rw[<-fc,<-hN];exact(Blk.new w (aL t) 35).alloc _
  ·have:=Blk.new (w.alloc (.cells (aL t).toArray 35)) [.bool neg,.string n,.string d] 37;rw[NU,hN,fc]at this;exact this
 clear hV hT;go_enter func3,ntmps3;go_wp2_with fail;refine(MC W1 S.2.1).mono ?_;rintro e w2 ⟨rfl,hb⟩;replace S:=keep hb S;clear hb fc;go_wp2_with (refine wR 31 (nN (ai S.2.2.2.1)) ?_);refine(Mt t.src _ S.2.2.1.src).mono ?_;rintro e w3 ⟨hb,b,rfl,hf⟩;replace S:=keep hb S;clear hb;have HF:=MY hf;clear hf
 cases b with
 |false=>
  go_wp2
  go_ret
  exact⟨rfl,S.1⟩
 |true=>
 have cN:Hid (jR t.src):=HF.out rfl;clear HF;obtain⟨q0,q1,q2⟩:=dc S.2.2.2.2;have hk:=S.2.2.2.2.lt;go_wp2_with fail;refine(E8 neg n d _).mono ?_;rintro e w4 ⟨rfl,hb⟩;replace S:=keep hb S;clear hb;clear q0 q1 q2 hk;obtain⟨b,hb⟩:=nm (decide (n.size<=40)&&decide (d.size<=40));rw[hb];clear hb
 cases b with
 |false=>
  go_wp2
  go_ret
  exact⟨rfl,S.1⟩
 |true=>
 go_wp2_with (refine wG 35 (ai S.2.2.2.1) ?_);refine(vf t _ S.2.2.1 cN.small S.2.1).mono ?_;rintro e w5 ⟨hb,k,rfl,hk⟩;replace S:=keep hb S;clear hb;have HK:=MY hk;clear hk;by_cases fi:k=0
 case neg=>
  have t1:decide (¬k=0)=true:=by simpa using fi
  go_wp2;go_ret;exact⟨rfl,S.1⟩
 subst fi;have HP:Hid (oI t):=HK.1 (by first|rfl|trivial);clear HK;obtain⟨q0,q1,q2⟩:=dc S.2.2.2.2;have hk:=S.2.2.2.2.lt;go_wp2_with fail;refine(iP neg n d _ S.2.1).mono ?_;rintro e w6 ⟨rfl,hb⟩;replace S:=keep hb S;clear hb;clear q0 q1 q2 hk;by_cases hr:bN neg n d
 case neg=>
  rw[iO hr];go_wp2;go_ret;exact⟨rfl,S.1⟩
 rw[gY hr];have HR:=MY hr;clear hr;obtain⟨q0,q1,q2⟩:=dc S.2.2.2.2;have hk:=S.2.2.2.2.lt
 cases neg with
 |true=>
  go_wp2
  go_ret
  exact⟨rfl,S.1⟩
 |false=>
 by_cases nQ:day<0
 case pos=>
  go_wp2;go_ret;exact⟨rfl,S.1⟩
 by_cases oe:1024<=day
 case pos=>
  go_wp2;go_ret;exact⟨rfl,S.1⟩
 obtain⟨dy,rfl⟩:∃m:Nat,day=m:=⟨day.toNat,by omega⟩
 have oi:¬((dy:Int)<0):=by omega
 have eP:=MY (ta t.src ec);obtain⟨co,db⟩:=nm (gI t.src ec);rw[db]at eP;have hQ:=MY db;clear db;go_wp2_with (refine wR 31 (nN (ai S.2.2.2.1)) ?_);clear q0 q1 q2 hk
 cases co with
 |none=>
  refine(eP.out _ S.2.2.1.src he).mono ?_
  rintro e w7 ⟨hb,rfl⟩
  replace S:=keep hb S
  clear hb
  go_wp2
  go_ret
  exact⟨rfl,S.1⟩
 |some c=>
 refine(eP.out _ S.2.2.1.src he).mono ?_;rintro e w7 ⟨hb,v,rfl,hv⟩;replace S:=gE hb S (hv);clear hb;clear hv eP;have y1:=(S.2.2.2.2.1.at 1 _ rfl).1;have y2:=(S.2.2.2.2.1.at 2 _ rfl).1;have yl:=S.2.2.2.2.1.lt;obtain⟨AI,ci,ei⟩:=S.2.2.2.1.src.items.len;obtain⟨AP,cp,ep⟩:=S.2.2.2.1.src.plants.len;rw[N6]at ei ep;obtain⟨ni,hA⟩:=nm t.src.items.length;obtain⟨np,hB⟩:=nm t.src.plants.length;rw[hA]at ei;rw[hB]at ep;rw[ei]at y1;rw[ep]at y2;have eU:=MY hA;have gl:=MY hB;clear ei ep hA hB;by_cases oj:item<0
 case pos=>
  go_wp2;go_ret;exact⟨rfl,S.2.1⟩
 obtain⟨i,rfl⟩:∃m:Nat,item=m:=⟨item.toNat,by omega⟩
 by_cases om:(ni:Int)<=(i:Int)
 case pos=>
  go_wp2;go_ret;exact⟨rfl,S.2.1⟩
 by_cases os:plant<0
 case pos=>
  go_wp2;go_ret;exact⟨rfl,S.2.1⟩
 obtain⟨p,rfl⟩:∃m:Nat,plant=m:=⟨plant.toNat,by omega⟩
 by_cases ov:(np:Int)<=(p:Int)
 case pos=>
  go_wp2;go_ret;exact⟨rfl,S.2.1⟩
 have ad:Hid (TypesOk t.src/\iW t.src/\cI t.src c=true/\c.length<=6):=by
  have h1:=hQ.out;unfold gI at h1;split at h1
  ·rename_i h2;cases h1;have h3:=HP.1.1;refine⟨h3.2.1,h3.2.2.2.2.1,h2.2.2,?_⟩;rw[Gi];have:=h3.2.1.2.1;unfold dG at this;simp only[Ob,decide_eq_true_eq]at this;omega
  ·cases h1
 have gw:Hid (np<=8/\ni<=32):=by
  have:=ad.1.2.1;unfold dG at this;simp only[Ob,decide_eq_true_eq]at this;rw[eU.out,gl.out]at this;exact⟨this.2.1,this.1⟩
 obtain⟨cd,kn,dd⟩:=MD HP.out (i:=i) (p:=p) (by rw[eU.out];omega) (by have:=gw.1;omega);have hP:=MY kn;have cD:=MY dd;clear kn dd;have fQ:=MY (Mx ad.2.1 ad.1 (i:=i) (p:=p) (d:=dy) (by omega) (by omega) ad.2.2.1);have ga:=MY (fun(hw:bV t.src i p dy c=[])=>Mw ad.1 cN.out ad.2.1 (i:=i) (p:=p) (d:=dy) (by omega) (by omega) ad.2.2.1 cD.out hw);have gf:=MY (fun k (hw:bV t.src i p dy c=[k])=>My ad.1 cN.out (i:=i) (p:=p) (d:=dy) (k:=k) HR.out cD.out hw);have ii:Hid (nI t.src i p dy c=some (bV t.src i p dy c)):=if_pos ad.2.2.1;have dv:=MY (fun W hV hT=>Hc t i p dy ec false n d W (oI t) c cd hV hT (fun V hW=>vf t V (hV.below hW) cN.small (hT.below hW)) HP.out (by rw[eU.out];omega) (by rw[eU.out];exact gw.2) (by rw[gl.out];omega) (by rw[gl.out];exact gw.1) (by omega) hQ.out (by have:=ad.2.2.2;omega) he hP.out (code_ok ad.1 cN.out cD.out).1);obtain⟨ws,mb⟩:=nm (bV t.src i p dy c);have eV:=MY (fun W hS hc=>xW t.src i p dy v c W hS hc (by have:=ad.2.2.2;omega));rw[ii.out]at eV;rw[mb]at fQ ga gf eV;clear mb ii;as_aux_lemma=>
  go_wp2_with (refine wR 31 (nN (ai S.2.2.2.2.1)) ?_);clear y1 y2 yl;refine(eV.out _ S.2.2.2.1.src S.1).mono ?_;rintro e w8 ⟨hb,lv,rfl,ho⟩;replace S:=gE hb S (ho.row);clear hb;clear ho eV;obtain⟨q0,q1,q2⟩:=dc S.2.2.2.2.2.2;have hk:=S.2.2.2.2.2.2.lt;go_wp2_with (refine wR 35 (ai S.2.2.2.2.2.1) ?_);clear q0 q1 q2 hk;rcases ws with _|⟨k,_|⟨k2,l⟩⟩
  ·have mx:cd.code=[]:=ga.out rfl;rw[mx]at dv;obtain⟨Al,cl,el⟩:=S.1.len;subst el;refine(dv.out _ S.2.2.2.2.1 S.2.2.2.1).mono ?_;rintro e w9 ⟨hb,em⟩;replace S:=keep hb S;clear hb;rcases em with⟨h0,_⟩|⟨_,rfl⟩
   ·cases h0
   go_wp2;go_ret;exact⟨rfl,S.2.2.1⟩
  ·obtain⟨ln,r,g,lx,bw,kv,kt⟩:=gf.out k rfl;have kw:(if cd.code.isEmpty then((160,bL 0):Int×Mst)else cG cd.code (c++[(dy:Int)]) false n d 4096)=cG cd.code (c++[(dy:Int)]) false n d 4096:=if_neg (by rw[List.isEmpty_iff];exact ln);rw[kw]at dv;refine(dv.out _ S.2.2.2.2.1 S.2.2.2.1).mono ?_;intro e av df;obtain⟨hb,uv,wv,ld,ge,rfl,en⟩:=ME df kt;replace S:=gE hb S en;have ib:=MY lx;have fx:=MY kv;clear hb en df ln kw kt lx kv gf ga fQ dv cD hP;obtain⟨ar,kc,lp,rfl,rfl⟩:=bN.to HR.out;have di:=MY (And.intro kc lp);clear kc lp;have eg:(⟨false,bv (bs ar.n),bv (bs ar.d)⟩:Rt)=ar:=by have:=di.2;obtain⟨a1,a2,a3⟩:=ar;cases this;simp only[aU]
   rw[eg]at S;clear eg;have hH:=jS ad.1 bw;have hY:=MY (lK hH);obtain⟨⟨a0,fe,cq⟩,rn,rd,hJ,hI,df,hh⟩:=lK hH;obtain⟨x,hx,ll⟩:∃x,amtR t.src a0=some x/\mulR x (lowR false (rd-rn) rd)=some g:=by
    have h:=fx.out;unfold goodR at h;rw[fe,hJ,hI,show(rd:Int)-(rn:Int)=((rd-rn:Nat):Int) by omega]at h;simp only[NI]at h
    cases hx:amtR t.src a0 with
    |none=>rw[hx]at h;cases h
    |some x=>rw[hx]at h;exact⟨x,rfl,h⟩
   have dk:=MY (And.intro (qw ad.1.1 hY.out fx.out) (Bv ad.1 hY.out fx.out));have it:=MY (gJ ad.1.1 cq hx);have hp:=fE;have fz:=MY (dq (neg:=false) (n:=rd-rn) (d:=rd));have hU:=MY (dq (neg:=false) (n:=rn) (d:=rd));have gs:=MY (yN df hh);have gg:=MY ll;have fs:=MY (fun W hS hT=>sN t.src a0 W hS ad.1.1 cq hT);rw[hx]at fs;generalize ex:lowR false (rd-rn) rd=rr at fz gs gg;clear ll ex hx hp;have fq:=S.2.2.2.2.2.1.src.recv r bw;have mm:=MY (io fq);obtain⟨rb,ro,cr,er,kl,dd⟩:=ey S.2.2.2.2.2.1.src.recs ib.out;obtain⟨ob,oo,co,eo,kk,db⟩:=ey fq.outs fe;obtain⟨A1,A2,A3,A4,c1,c2,c3,c4,z1,z2,_,z4⟩:=fq.heads;obtain⟨lb,lo,cl,el,mv,ks⟩:=ey (f:=pW) (L:=[k]) S.2.1 (i:=0) rfl;subst el;have bu:=cN.2 r bw;unfold oH at bu;have fl:=(NQ.1 ib.out).1;have nf:=(NQ.1 fe).1;obtain⟨nr,hC⟩:=nm t.src.recs.length;rw[hC]at er fl;have nw:=MY hC;clear hC;obtain⟨mo,hz⟩:=nm r.outs.length;rw[hz]at eo nf bu;have eR:=MY hz;clear hz;obtain⟨mi,ht⟩:=nm r.ins.length;rw[ht]at z2 bu;have cP:=MY ht;clear ht;obtain⟨mr,ax⟩:=nm r.runs.length;rw[ax]at z4 bu;have eS:=MY ax;clear ax;have cD:=MY dd;have ao:=MY db;have y6:=(S.2.2.2.2.2.2.1.at 6 _ rfl).1;rw[er]at y6;have yl:=S.2.2.2.2.2.2.1.lt;have yr:=dd 6 _ rfl;rw[eo]at yr;have yk:=ks 0 _ rfl
   simp only[Nat.zero_mul,Na]at yk;have HZ:=MY (And.intro eo (And.intro z2 (And.intro z4 (And.intro hJ hI))));obtain⟨fi,mN⟩:=ix (k:=k) (n:=nr);have na:¬((nr:Int)<=(k:Int)):=by omega
   have nb:decide (nr<=k)=false:=by simpa using fl
   have nc:decide ((k:Int)<0)=false:=decide_eq_false (by omega);have fo:decide (mo=0)=false:=decide_eq_false (by omega);have hm1:¬((mo:Int)=0):=by omega
   have nv:=MY fl;have mf:=MY (And.intro df hh);have hR:=MY bu;clear dd db ks er eo z1 z2 z4 hJ hI hH fl fe cq fq df hh bu;have md:=MY kl;have bp:=MY kk;as_aux_lemma=>
    go_wp2_with fail;refine aJ (S:=fun w'=>∀b o,b<av.heap.size->w'.cell? ⟨b,o,none⟩=av.cell? ⟨b,o,none⟩) [0,1,2,3,4,5,6,7,8,9,10,11,12,13,14,15,16,17,18,19,20,21,22,23,24,25,26] (fun b o _=>rfl) (fun ac=>?_);repeat(first|refine sQ ?_|refine sS ?_)
    refine aj ?_;clear ac;go_wp2_with fail;obtain⟨qb,hF⟩:=nm av.drew.drew.heap.size;obtain⟨cR,bm⟩:=nm (av.drew.drew.alloc (.cells (am r).toArray 55));have ih:∀o,(fun w'=>∀b o,b<av.heap.size->w'.cell? ⟨b,o,none⟩=av.cell? ⟨b,o,none⟩) (av.drew.drew.alloc o):=fun o b i hb=>(Below.cell ((NB av.heap.size av).drew.drew.alloc (No _) o) (p:=⟨b,i,none⟩) hb)
    refine aJ (S:=fun w'=>∀b o,b<av.heap.size->w'.cell? ⟨b,o,none⟩=av.cell? ⟨b,o,none⟩) [0,1,2,3,4,5,6,7,1008,1009] (fun b o _=>rfl) (fun ac=>?_);repeat(first|(refine sR 55 (fun w' aA j v hv=>(aA rb _ md.out).trans (cD.out j v hv)) ?_ (b:=rb) (off:=(ro+k*17)) (cs:=(am r)))|(refine sQ ?_))
    refine y8 55 17 (by kernel_rfl) rfl rfl rfl rfl rfl (.tmp 21) (.tmp 184) rfl rfl qb hF rfl rfl (am r) rfl rfl mm.out ih ?_;try simp only[PT]
    refine aj ?_;rw[bm];clear ac ih y6 yr yk yl mv kl kk fi mN na nb nc hm1 fo;have hb:eB av cR:=by rw[<-bm];exact(NB av.heap.size av).drew.drew.alloc (No _) _
    have eC:Blk cR qb (am r) 55:=by rw[<-bm,<-hF];exact Blk.new av.drew.drew (am r) 55
    replace S:=gE hb S eC;have an:=MY hb;clear hb eC bm hF;obtain⟨y0,y1,y2,y3,y4,y5,y6,y7⟩:=pa S.2.2.2.2.2.2.2.1;have i0:=(an.cell (p:=⟨ob,_,none⟩) bp.out).trans (ao.out 0 _ rfl);have i1:=(an.cell (p:=⟨ob,_,none⟩) bp.out).trans (ao.out 1 _ rfl);have i2:=(an.cell (p:=⟨ob,_,none⟩) bp.out).trans (ao.out 2 _ rfl);have i3:=(an.cell (p:=⟨ob,_,none⟩) bp.out).trans (ao.out 3 _ rfl);have i4:=(an.cell (p:=⟨ob,_,none⟩) bp.out).trans (ao.out 4 _ rfl);have i5:=(an.cell (p:=⟨ob,_,none⟩) bp.out).trans (ao.out 5 _ rfl);have i6:=(an.cell (p:=⟨ob,_,none⟩) bp.out).trans (ao.out 6 _ rfl);simp only[Nat.zero_mul,Na,Nm]at i0 i1 i2 i3 i4 i5 i6;have x6:=(S.1.at 6 _ rfl).1;rw[HZ.1]at x6;have yl:=S.2.2.2.2.2.2.2.1.lt;have xl:=S.1.lt;have ol:ob<cR.heap.size:=Nf bp.out an.size;have hm0:(0:Int)<(mo:Int):=by omega
    go_wp2_with fail;refine xJ [(10,22)] [0,1,2,3,4,5,1006,7,8,9] [1011,12] 37 [.bool false,.string ⟨#[]⟩,.string ⟨#[]⟩] (by kernel_rfl) (by kernel_rfl) rfl (by decide) (by kernel_rfl) ?_;repeat(refine kp rfl rfl rfl rfl ?_;intro xf;try simp only[PT];refine⟨?_,rfl,?_,?_⟩;rotate_left;(· intro w aA;have aA:=fun b o (h:b<_)=>Below.cell aA (p:=⟨b,o,none⟩) h;go_simp;try(with_reducible rfl));try simp only[PT])
    refine lE rfl rfl rfl (fun xf WF cn bd=>⟨rfl,fun K hK=>?_⟩);try simp only[PT]
    go_simp;have bb:eB cR WF:=(NB _ _).drew.trans bd;refine(fs.out WF (S.2.2.2.2.2.2.1.below bb).src (S.2.2.2.2.2.1.below bb)).mono ?_;rintro e w3 ⟨rfl,bg⟩;simp only[calcV];go_wp2_with fail;refine hK.out _ _ (bg) rfl ?_;clear hK K;try simp only[PT]
    clear bg bb cn bd;repeat(refine kp rfl rfl rfl rfl ?_;intro xf;try simp only[PT];refine⟨?_,rfl,?_,?_⟩;rotate_left;(· intro w aA;have aA:=fun b o (h:b<_)=>Below.cell aA (p:=⟨b,o,none⟩) h;go_simp;try(with_reducible rfl));try simp only[PT])
    refine sV rfl (fun fb WE gS ee ed bc=>?_);try simp only[PT]
    have ba:cR.heap.size<=fb:=ed;obtain⟨q0,f0⟩:=bc.at 0 _ rfl;obtain⟨q1,f1⟩:=bc.at 1 _ rfl;obtain⟨q2,f2⟩:=bc.at 2 _ rfl;have cb:=MY ee;have dn:=MY bc;clear ee bc gS ed;refine az fun K hK=>?_;go_simp;refine hG hK (by exact((cb.setCell (p:=⟨fb,0,none⟩) ba _).setCell (p:=⟨fb,1,none⟩) ba _).setCell (p:=⟨fb,2,none⟩) ba _) fun ac=>?_;clear hK K;repeat(first|refine sQ ?_|refine sS ?_)
    refine aj ?_;obtain⟨ch,bn⟩:=nm (((WE.setCell ⟨fb,0,none⟩ (.bool x.neg)).setCell ⟨fb,1,none⟩ (.string (bs x.n))).setCell ⟨fb,2,none⟩ (.string (bs x.d)));have hb:eB cR ch:=by rw[<-bn];exact(NB _ _).drew.trans (((cb.setCell (p:=⟨fb,0,none⟩) ba _).setCell (p:=⟨fb,1,none⟩) ba _).setCell (p:=⟨fb,2,none⟩) ba _)
    have hq:Blk ch fb [.bool x.neg,.string (bs x.n),.string (bs x.d)] 37:=by rw[<-bn];exact((dn.set 0 _).set 1 _).set 2 _
    replace S:=gE hb S hq;rw[bn];clear bn hb hq q0 q1 q2 f0 f1 f2 ac cb dn;clear y0 y1 y2 y3 y4 y5 y6 y7 i0 i1 i2 i3 i4 i5 i6 x6 yl xl ol hm0 fs;have x7:=(S.2.1.at 7 _ rfl).1;have x8:=(S.2.1.at 8 _ rfl).1;rw[HZ.2.2.2.1]at x7;rw[HZ.2.2.2.2]at x8;have xl:=S.2.1.lt;have mz:=mf.out;go_wp2_with fail;refine xJ [(10,24)] [1,2,3,4,1000,1005,1006,7,8,9] [1011,12] 37 [.bool false,.string ⟨#[]⟩,.string ⟨#[]⟩] (by kernel_rfl) (by kernel_rfl) rfl (by decide) (by kernel_rfl) ?_;repeat(refine kp rfl rfl rfl rfl ?_;intro xf;try simp only[PT];refine⟨?_,rfl,?_,?_⟩;rotate_left;(· intro w aA;have aA:=fun b o (h:b<_)=>Below.cell aA (p:=⟨b,o,none⟩) h;go_simp;try(with_reducible rfl));try simp only[PT])
    refine lE rfl rfl rfl (fun xf WF cn bd=>⟨rfl,fun K hK=>?_⟩);try simp only[PT]
    go_simp;have bb:eB ch WF:=(NB _ _).drew.trans bd;refine(pG 1 1 WF (by omega) (by omega) (by omega) (S.2.2.2.2.2.2.1.below bb)).mono ?_;rintro e w3 ⟨rfl,bg⟩;rw[show lowR false 1 1=aq by simp[lowR,aq]];simp only[bA];go_wp2_with fail;refine hK.out _ _ (bg) rfl ?_;clear hK K;try simp only[PT]
    clear bg bb cn bd;refine lE rfl rfl rfl (fun xf WF cn bd=>⟨rfl,fun K hK=>?_⟩);try simp only[PT]
    go_simp;have bb:eB ch WF:=(NB _ _).drew.trans bd;refine(pG rn rd WF (by omega) (by omega) (by omega) (S.2.2.2.2.2.2.1.below bb)).mono ?_;rintro e w3 ⟨rfl,bg⟩;simp only[bA];go_wp2_with fail;refine hK.out _ _ (bg) rfl ?_;clear hK K;try simp only[PT]
    clear bg bb cn bd;have eb:=MY (fun W (hT:Tab W)=>lq aq (lowR false rn rd) W jz hU.out hT);rw[gs.out]at eb;unfold bA at eb;simp only[calcV]at eb;refine lE rfl rfl rfl (fun xf WF cn bd=>⟨rfl,fun K hK=>?_⟩);try simp only[PT]
    go_simp;have bb:eB ch WF:=(NB _ _).drew.trans bd;refine(eb.out WF (S.2.2.2.2.2.2.1.below bb)).mono ?_;rintro e w3 ⟨rfl,bg⟩;go_wp2_with fail;refine hK.out _ _ (bg) rfl ?_;clear hK K;try simp only[PT]
    clear bg bb cn bd;repeat(refine kp rfl rfl rfl rfl ?_;intro xf;try simp only[PT];refine⟨?_,rfl,?_,?_⟩;rotate_left;(· intro w aA;have aA:=fun b o (h:b<_)=>Below.cell aA (p:=⟨b,o,none⟩) h;go_simp;try(with_reducible rfl));try simp only[PT])
    refine sV rfl (fun gb WE gS ee ed bc=>?_);try simp only[PT]
    have ba:ch.heap.size<=gb:=ed;obtain⟨q0,f0⟩:=bc.at 0 _ rfl;obtain⟨q1,f1⟩:=bc.at 1 _ rfl;obtain⟨q2,f2⟩:=bc.at 2 _ rfl;have cb:=MY ee;have dn:=MY bc;clear ee bc gS ed;refine az fun K hK=>?_;go_simp;refine hG hK (by exact((cb.setCell (p:=⟨gb,0,none⟩) ba _).setCell (p:=⟨gb,1,none⟩) ba _).setCell (p:=⟨gb,2,none⟩) ba _) fun ac=>?_;clear hK K;repeat(first|refine sQ ?_|refine sS ?_)
    refine aj ?_;obtain⟨iu,bo⟩:=nm (((WE.setCell ⟨gb,0,none⟩ (.bool rr.neg)).setCell ⟨gb,1,none⟩ (.string (bs rr.n))).setCell ⟨gb,2,none⟩ (.string (bs rr.d)));have hb:eB ch iu:=by rw[<-bo];exact(NB _ _).drew.trans (((cb.setCell (p:=⟨gb,0,none⟩) ba _).setCell (p:=⟨gb,1,none⟩) ba _).setCell (p:=⟨gb,2,none⟩) ba _)
    have hq:Blk iu gb [.bool rr.neg,.string (bs rr.n),.string (bs rr.d)] 37:=by rw[<-bo];exact((dn.set 0 _).set 1 _).set 2 _
    replace S:=gE hb S hq;rw[bo];clear bo hb hq q0 q1 q2 f0 f1 f2 ac cb dn;clear x7 x8 xl mz eb gs hU;have dr:=MY (fun W (hT:Tab W)=>jA x rr W it.1 fz.out hT);rw[gg.out]at dr;unfold bA at dr;simp only[calcV]at dr;obtain⟨q0,q1,q2⟩:=dc S.2.1;have ql:=S.2.1.lt;obtain⟨p0,p1,p2⟩:=dc S.1;have pl:=S.1.lt;as_aux_lemma=>
     go_wp2_with fail;refine(dr.out _ S.2.2.2.2.2.2.2.1).mono ?_;rintro e ng ⟨rfl,hb⟩;replace S:=keep hb S;clear hb;clear q0 q1 q2 ql p0 p1 p2 pl;clear dr gg fz it;obtain⟨nx,bi⟩:=nm (ng.alloc (.cells #[.bool g.neg,.string (bs g.n),.string (bs g.d)] 37));replace S:=de bi S (kh [.bool g.neg,.string (bs g.n),.string (bs g.d)] _ bi);have br:=MY (fun W (hT:Tab W)=>pC ar g W di.1 dk.1.1 dk.1.2 hT);obtain⟨od,hE⟩:=nm (divR ar g);rw[hE]at br;have dT:=MY hE;unfold bA at br;rw[di.2]at br;clear hE;obtain⟨r0,r1,r2⟩:=dc S.2.2.2.2.2.2.2.2.2.2.2;have rl:=S.2.2.2.2.2.2.2.2.2.2.2.lt;obtain⟨m0,m1,m2⟩:=dc S.1;have ml:=S.1.lt;go_wp2_with fail
     cases od with
     |none=>
      simp only[calcV]at br
      refine(br.out _ S.2.2.2.2.2.2.2.2.1).mono ?_
      rintro e bx ⟨rfl,hb⟩
      replace S:=keep hb S
      clear hb r0 r1 r2 rl m0 m1 m2 ml bi
      go_wp2_with fail
      refine(MF _ (S.2.2.2.2.2.2.2.2.1.below ((NB _ _).alloc (No _) _))).mono ?_
      rintro e ag ⟨rfl,hb⟩
      replace S:=keep hb (de (w:=bx) (o:= .cells #[.bool false,.string ⟨#[]⟩,.string ⟨#[]⟩] 37) (G:=True) rfl S trivial)
      clear hb
      have bh:=(S.2.2.2.2.1.at 14 _ rfl).1
      rw[HZ.2.2.1]at bh
      have xl:=S.2.2.2.2.1.lt
      by_cases ax:mr=0
      ·subst ax
       go_wp2
       go_ret
       exact⟨rfl,S.2.2.2.2.2.2.2.2.1⟩
      ·have hm1:¬((mr:Int)=0):=by omega
       have fo:decide (mr=0)=false:=decide_eq_false ax
       go_wp2
       go_ret
       exact⟨rfl,S.2.2.2.2.2.2.2.2.1⟩
     |some q=>
     simp only[calcV]at br;have gr:Hid (q.ok/\q.neg=false):=⟨ny dT.out di.1 dk.1.1 dk.1.2,Bu dT.out di.2 dk.2⟩
     refine(br.out _ S.2.2.2.2.2.2.2.2.1).mono ?_;rintro e bx ⟨rfl,hb⟩;replace S:=keep hb S;clear hb r0 r1 r2 rl m0 m1 m2 ml bi br;obtain⟨nz,bk⟩:=nm (bx.alloc (.cells #[.bool q.neg,.string (bs q.n),.string (bs q.d)] 37));replace S:=de bk S (kh [.bool q.neg,.string (bs q.n),.string (bs q.d)] _ bk);obtain⟨d0,d1,d2⟩:=dc S.1;have dl:=S.1.lt;have ca:=MY (fun W (hT:Tab W)=>wS q W gr.1 gr.2 hT);obtain⟨oc,hD⟩:=nm (ceilR q);rw[hD]at ca;have gp:=MY hD;unfold bA at ca;clear hD;go_wp2_with fail
     cases oc with
     |none=>
      simp only[kg]at ca
      refine(ca.out _ S.2.2.2.2.2.2.2.2.2.1).mono ?_
      rintro e ag ⟨rfl,hb⟩
      replace S:=keep hb S
      clear hb d0 d1 d2 dl bk
      have bh:=(S.2.2.2.2.1.at 14 _ rfl).1
      rw[HZ.2.2.1]at bh
      have xl:=S.2.2.2.2.1.lt
      by_cases ax:mr=0
      ·subst ax
       go_wp2
       go_ret
       exact⟨rfl,S.2.2.2.2.2.2.2.2.1⟩
      have cx:ge=2:=((S.2.2.2.2.2.1).far dT.out (fun k h=>(by rw[gp.out]at h;cases h))).elim (fun h=>absurd (eS.symm.trans h) ax) id
      subst cx
      have hm1:¬((mr:Int)=0):=by omega
      have fo:decide (mr=0)=false:=decide_eq_false ax
      go_wp2
      go_ret
      exact⟨rfl,S.2.2.2.2.2.2.2.2.1⟩
     |some kq=>
     simp only[kg]at ca;refine(ca.out _ S.2.2.2.2.2.2.2.2.2.1).mono ?_;rintro e ag ⟨rfl,hb⟩;replace S:=keep hb S;clear hb d0 d1 d2 dl bk ca;by_cases hd:1099511627776<kq
     case pos=>
      have hi:(1099511627776:Int)<(kq:Int):=by omega
      have mF:decide (1099511627776<(kq:Int))=true:=by simpa using hi
      have bh:=(S.2.2.2.2.1.at 14 _ rfl).1;rw[HZ.2.2.1]at bh;have xl:=S.2.2.2.2.1.lt;by_cases ax:mr=0
      ·subst ax;go_wp2;go_ret;exact⟨rfl,S.2.2.2.2.2.2.2.2.1⟩
      have cx:ge=2:=((S.2.2.2.2.2.1).far dT.out (fun k h=>(by rw[gp.out]at h;cases h;exact hd))).elim (fun h=>absurd (eS.symm.trans h) ax) id;subst cx;have hm1:¬((mr:Int)=0):=by omega
      have fo:decide (mr=0)=false:=decide_eq_false ax;go_wp2;go_ret;exact⟨rfl,S.2.2.2.2.2.2.2.2.1⟩
     have hi:¬((1099511627776:Int)<(kq:Int)):=by omega
     have mF:decide (1099511627776<(kq:Int))=false:=by simpa using hi
     obtain⟨SG,mn⟩:Hid (Got ag t.src r g ar uv wv ld ge)/\True:=⟨S.2.2.2.2.2.1,trivial⟩
     rcases SG.out with⟨rfl,us,ws,hn,rfl,hu,hw⟩|⟨rfl,hn⟩
     case inr=>
      go_wp2;go_ret;exact⟨rfl,S.2.2.2.2.2.2.2.2.1⟩
     obtain⟨es,fn,la,lc⟩:=MG hn dT.out gp.out;rw[cP.out,eR.out]at es;rw[eS.out]at fn;have mg:=MY la;have mk:=MY lc;obtain⟨Au,cu,eu,ez⟩:=hu;subst eu;obtain⟨Aw,cw,ew,eA⟩:=hw;subst ew;obtain⟨m,hm⟩:=nm (mi+mo);rw[hm]at es;have HM:=MY hm;rw[N6,N6,es,fn];have HU:=MY (show sG ag (.slice Au m cu) us from⟨Au,cu,by rw[N6,es],ez⟩);have HW:=MY (show sH ag (.slice Aw mr cw) ws from⟨Aw,cw,by rw[N6,fn],eA⟩);clear hn es fn la lc ez eA SG mn;have bh:=(S.2.2.2.2.1.at 14 _ rfl).1;rw[HZ.2.2.1]at bh;have xl:=S.2.2.2.2.1.lt;have x5:=(S.2.2.2.2.1.at 5 _ rfl).1;rw[HZ.2.1]at x5;have x6:=(S.2.2.2.2.1.at 6 _ rfl).1;rw[HZ.1]at x6;have nq:=(S.2.2.2.2.1.at 13 _ rfl).1;have bu:=hR.out;have gZ:(mi:Int)+(mo:Int)=(m:Int):=by omega
     have lV:IntKind.i64.wrap ((mi:Int)+(mo:Int))=(m:Int):=by rw[IntWalk.i64_in _ ⟨by omega,by omega⟩];omega
     have hL:IntKind.i64.wrap (m:Int)=(m:Int):=IntWalk.i64_in _ ⟨by omega,by omega⟩;as_aux_lemma=>
      go_wp2_with fail;have hZ:Hid (∀W,eB ag W->RowC W 7 (.slice A2 mi c2) (r.ins.map aG)):=fun W hW=>by have:=(S.2.2.2.2.2.2.2.2.2.2.1.src.recv r bw).ins;rw[HZ.2.1]at this;exact this.below hW
      have ie:Hid (∀W,eB ag W->RowC W 7 (.slice (some ⟨ob,oo,none⟩) mo co) (r.outs.map aG)):=fun W hW=>by have:=(S.2.2.2.2.2.2.2.2.2.2.1.src.recv r bw).outs;rw[HZ.1]at this;exact this.below hW
      have hM:Hid (∀l:List aw,∀y∈l.map aG,∀u∈y,u.oneCell'=true):=fun l y hy u hu=>by obtain⟨a,_,rfl⟩:=OE.1 hy;exact Od.1 (show((aG a).all fun v=>v.oneCell')=true from rfl) u hu
      have hO:Hid (∀l:List aw,∀y∈l.map aG,y.length=7):=fun l y hy=>by obtain⟨a,_,rfl⟩:=OE.1 hy;rfl
      refine aJ (S:=fun w'=>∀b o,b<ag.heap.size->w'.cell? ⟨b,o,none⟩=ag.cell? ⟨b,o,none⟩) [1,2,4,5,8,1000,1003,1006,7] (fun b o _=>rfl) (fun ac=>?_);repeat(first|refine sQ ?_|refine sS ?_)
      refine az fun K hK=>?_;go_simp;obtain⟨VA,eY⟩:=nm ((ag.alloc (.cells #[] 59)).drew);have kf:eB ag VA:=by rw[<-eY];exact((NB _ _).alloc (No _) _).drew
      have lw:aa VA ag.heap.size 59 7 (.slice ag.heap.size 0 0) []:=by rw[<-eY];exact(aa.empty ag ag.heap.size 59 7 (No _)).drew
      have cC:=MY kf;have hX:=MY lw;clear kf lw;rw[eY];refine hG hK (by exact fun b o hb=>cC.cell (p:=⟨b,o,none⟩) hb) fun ac=>?_;clear hK K;repeat(first|refine sQ ?_|refine sS ?_)
      refine az fun K hK=>?_;refine BC zt (.tmp 296) (.tmp 298) rfl ag.heap.size (.slice ag.heap.size 0 0) [] rfl hX.out A2 mi c2 (r.ins.map aG) rfl (hZ.out _ cC.out) (hO.out _) (hM.out _) (by rw[N6,cP.out];simp;omega) cC.size ?_;intro v5 w5 ho hg _;have cz:=MY (cC.grown hg cC.size (fun k e=>by cases e;exact No _));have go:=MY ho;clear ho hg eY;refine hG hK (by exact fun b o hb=>cz.cell (p:=⟨b,o,none⟩) hb) fun ac=>?_;clear hK K;refine az fun K hK=>?_;refine BC zt (.tmp 299) (.tmp 301) rfl ag.heap.size v5 ([]++r.ins.map aG) rfl go.out (some ⟨ob,oo,none⟩) mo co (r.outs.map aG) rfl (ie.out _ cz.out) (hO.out _) (hM.out _) (by rw[M9,N6,N6,cP.out,eR.out];omega) cz.size ?_;intro v6 W6 ho hg _;have fv:=MY (cz.grown hg cz.size (fun k e=>go.ge e));obtain⟨A6,c6,e6⟩:=ho.slice;have et:(([]:List (List Value))++r.ins.map aG++r.outs.map aG).length=m:=by have h:=HM.out;rw[M9,Oe,N6,N6,cP.out,eR.out];exact h
      rw[et]at e6;clear et;subst e6;have il:Hid (RowC W6 7 (.slice A6 m c6) ((r.ins++r.outs).map aG)):=by have:=ho.row;rw[M9,<-N9]at this;exact this
      clear ho hg;refine hG hK (by exact fun b o hb=>fv.cell (p:=⟨b,o,none⟩) hb) fun ac=>?_;clear hK K;repeat(first|refine sQ ?_|refine sS ?_)
      refine aj ?_;have S6:Hid (kU w t N qb bx.heap.size r q (.slice Au m cu) (.slice Aw mr cw) (.slice A6 m c6) us ws W6):=by
       have hb:=fv.out;have Z:=keep hb S;exact⟨Z.2.2.2.2.2.2.2.2.1,Z.2.2.2.2.2.2.2.2.2.1,Z.2.2.2.2.2.2.2.2.2.2.1,Z.2.2.2.2.2.2.2.2.2.2.2.1,Z.2.2.2.2.1,Z.1,HU.below hb,HW.below hb,il.out⟩
      have mc:Hid (∀a∈r.ins++r.outs,bM t.src a=true):=fun a ha=>by
       have h:=jS ad.1 bw;unfold bG km at h;simp only[Ob,Od]at h;rcases Of.1 ha with ha|ha
       ·exact h.2.2.1 a ha
       ·exact(h.2.2.2.1.2.1 a ha).1
      have op:m<=12:=by have:=HM.out;omega
      clear ac x5 x6 nq bh xl gZ lV hL hZ ie il HU HW S cz go fv cC hX;go_wp2_with fail;go_loopw [304] (fun z W=>∃j:Nat,j<=m/\z=.int .i64 j/\Hid (kU w t N qb bx.heap.size r q (.slice Au m cu) (.slice Aw mr cw) (.slice A6 m c6) us ws W)) (fun z _=>m-(intOf z).toNat)
      case atStart=>exact⟨0,Nu _,rfl,S6.out⟩
      case round=>
       clear S6;obtain⟨j,hj,rfl,S⟩:=hrel;by_cases hl:j<m
       case pos=>
        obtain⟨a,ha⟩:=gx (l:=(r.ins++r.outs)) (i:=j) (by rw[Oe,cP.out,eR.out,HM.out];exact hl);obtain⟨x,y,h1,h2,h3⟩:=mg.out j a ha;have cq:=mc.out a (Oc ha);have eD:=MY (fun W hS hT=>sN t.src a W hS ad.1.1 cq hT);rw[h1]at eD;simp only[calcV]at eD;have ds:=MY (fun W (hT:Tab W)=>jA x q W (gJ ad.1.1 cq h1).1 gr.1 hT);rw[h2]at ds;unfold bA at ds;simp only[calcV]at ds;obtain⟨xb,xo,e,ev⟩:=S.xx.rng rfl (i:=j) (x:=aG a) (by rw[Ou,ha];rfl);subst e;have ea:=MY (ev wr (NB _ _));obtain⟨ns,nD,iv,_,ez⟩:=S.uu;obtain⟨ub,uo,mp,ly,lA⟩:=ez j _ (Ou.trans (congrArg (Option.map eO) h3));subst mp;have ms:=(Value.slice.inj iv).1;subst ms;have bt:=MY lA;have cc:=MY ly;rw[cP.out]at bt;obtain⟨mI,mK⟩:=ix (k:=j) (n:=m);obtain⟨ab,cv⟩:=nm wr.heap.size;obtain⟨W7,be⟩:=nm (wr.alloc (.cells (aG a).toArray 59));have S7:=de be S (show Blk W7 ab (aG a) 59/\eB wr W7 from⟨cv▸kh (aG a) _ be,by rw[<-be];exact(NB _ _).alloc (No _) _⟩);clear ha h1 h2 h3 cq ev iv ez ly lA;go_upto_region 31 with(first|(refine wR 59 ea.out ?_)|(refine wA cv (.int .i64 (j:Int)) rfl ?_ (cs:=(aG a))))
        try(change Code.wp _ _ _ _ (wr.alloc (.cells (aG a).toArray 59)))
        try rw[be]
        try simp only[PT]
        clear be cv;go_wp2_with (first|(refine wR 31 (nN (ai S7.2.kb)) ?_)|(refine wR 59 (ai S7.1.1) ?_));refine(eD.out _ S7.2.tv.src S7.2.tab).mono ?_;rintro e nl ⟨rfl,hb⟩;replace S7:=keep hb S7;clear hb;obtain⟨nC,cm⟩:=nm (nl.alloc (.cells #[.bool x.neg,.string (bs x.n),.string (bs x.d)] 37));replace S7:=de cm S7 (kh [.bool x.neg,.string (bs x.n),.string (bs x.d)] _ cm);obtain⟨d0,d1,d2⟩:=dc S7.1;have dl:=S7.1.lt;obtain⟨q0,q1,q2⟩:=dc S7.2.2.qr;have ql:=S7.2.2.qr.lt;go_wp2_with fail;refine(ds.out _ S7.2.2.tab).mono ?_;rintro e nn ⟨rfl,hb⟩;replace S7:=keep hb S7;clear hb d0 d1 d2 dl q0 q1 q2 ql cm;obtain⟨cf,ef⟩:=nm (nn.alloc (.cells #[.bool y.neg,.string (bs y.n),.string (bs y.d)] 37));replace S7:=de ef S7 (kh [.bool y.neg,.string (bs y.n),.string (bs y.d)] _ ef);obtain⟨d0,d1,d2⟩:=dc S7.1;have dl:=S7.1.lt;have a4:=(S7.2.2.1.1.at 4 _ rfl).1;have a6:=(S7.2.2.1.1.at 6 _ rfl).1;have al:=S7.2.2.1.1.lt;have x5:=(S7.2.2.2.rb.at 5 _ rfl).1;rw[HZ.2.1]at x5;have xl:=S7.2.2.2.rb.lt;as_aux_lemma=>
         have u0:=(S7.2.2.1.2.cell (p:=⟨ub,_,none⟩) cc.out).trans (bt.out 0 _ rfl);have u1:=(S7.2.2.1.2.cell (p:=⟨ub,_,none⟩) cc.out).trans (bt.out 1 _ rfl);have u2:=(S7.2.2.1.2.cell (p:=⟨ub,_,none⟩) cc.out).trans (bt.out 2 _ rfl);have u3:=(S7.2.2.1.2.cell (p:=⟨ub,_,none⟩) cc.out).trans (bt.out 3 _ rfl);have u4:=(S7.2.2.1.2.cell (p:=⟨ub,_,none⟩) cc.out).trans (bt.out 4 _ rfl);have u5:=(S7.2.2.1.2.cell (p:=⟨ub,_,none⟩) cc.out).trans (bt.out 5 _ rfl);simp only[Na]at u0;have ul:ub<cf.heap.size:=Nf cc.out S7.2.2.1.2.size;have S9:Hid (kU w t N qb bx.heap.size r q (.slice (some ⟨ub,uo,none⟩) m cu) (.slice Aw mr cw) (.slice (some ⟨xb,xo,none⟩) m c6) us ws cf.drew):=keep (NB _ cf).drew (MY S7.2.2.2);clear S7 S eD ds ea bt;go_wp2_with fail;by_cases kz:j<mi
         case pos=>
          have g1:decide (mi<=j)=false:=decide_eq_false (by omega);have g2:decide (j<mi)=true:=decide_eq_true kz;have g3:decide ((mi:Int)<=(j:Int))=false:=decide_eq_false (by omega);have g4:decide ((j:Int)<(mi:Int))=true:=decide_eq_true (by omega);rw[g1]at u4;rw[g2]at u5;simp only[Np,Bool.false_and]at u5;as_aux_lemma=>
           refine aJ (S:=fun w'=>∀b o,b<cf.heap.size->w'.cell? ⟨b,o,none⟩=cf.cell? ⟨b,o,none⟩) [0,1,2,3,4,5,6,7,8,9,10,11,12,13,14,15,16,17,18,19,20,21,22,23,24,25,26,27,28,29,30] (fun b o _=>rfl) (fun ac=>?_);repeat(first|refine sQ ?_|refine sS ?_)
           refine aj ?_;clear ac;go_wp2_with fail;refine⟨⟨j+1,by omega,by go_num,S9.out⟩,?_⟩;simp[intOf];omega
         case neg=>
          have g1:decide (mi<=j)=true:=decide_eq_true (by omega);have g2:decide (j<mi)=false:=decide_eq_false kz;have g3:decide ((mi:Int)<=(j:Int))=true:=decide_eq_true (by omega);have g4:decide ((j:Int)<(mi:Int))=false:=decide_eq_false (by omega);rw[g1]at u4;rw[g2]at u5;simp only[Np,Bool.false_and]at u5;as_aux_lemma=>
           refine aJ (S:=fun w'=>∀b o,b<cf.heap.size->w'.cell? ⟨b,o,none⟩=cf.cell? ⟨b,o,none⟩) [0,1,2,3,4,5,6,7,8,9,10,11,12,13,14,15,16,17,18,19,20,21,22,23,24,25,26,27,28,29,30] (fun b o _=>rfl) (fun ac=>?_);repeat(first|refine sQ ?_|refine sS ?_)
           refine aj ?_;clear ac;go_wp2_with fail;refine⟨⟨j+1,by omega,by go_num,S9.out⟩,?_⟩;simp[intOf];omega
       obtain rfl:m=j:=by omega
       have ls:¬((m:Int)<(m:Int)):=by omega
       have bh:=(S.rb.at 14 _ rfl).1;rw[HZ.2.2.1]at bh;have xl:=S.rb.lt;have bu:=hR.out;go_wp2_with fail;clear bh xl;go_loopw [357] (fun z W=>∃j:Nat,j<=mr/\z=.int .i64 j/\Hid (kU w t N qb bx.heap.size r q (.slice Au m cu) (.slice Aw mr cw) (.slice A6 m c6) us ws W)) (fun z _=>mr-(intOf z).toNat)
       case atStart=>exact⟨0,Nu _,rfl,S.out⟩
       case round=>
        clear S;obtain⟨j,hj,rfl,S⟩:=hrel;by_cases hl:j<mr
        case neg=>
         obtain rfl:mr=j:=by omega
         have lu:¬((mr:Int)<(mr:Int)):=by omega
         go_wp2;go_ret;exact⟨rfl,S.bl⟩
        obtain⟨rx,fr⟩:=gx (l:=r.runs) (i:=j) (by rw[eS.out];exact hl);have h4:=mk.out j rx fr;have ex:0<=rx.slots/\rx.slots<=15:=by
         have h:=jS ad.1 bw;unfold bG nj nh at h;simp only[Ob,Od]at h;have:=(h.2.2.2.2.2.2.2.2.1 rx (Oc fr)).2;unfold btw at this;simp only[Ob,decide_eq_true_eq]at this;exact this
        have hs:0<=rx.slots*(kq:Int)/\rx.slots*(kq:Int)<=15*1099511627776:=⟨Int.mul_nonneg ex.1 (by omega),Int.le_trans (Int.mul_le_mul_of_nonneg_right ex.2 (by omega)) (Int.mul_le_mul_of_nonneg_left (by omega) (by omega))⟩
        have lV:=IntWalk.i64_in (rx.slots*(kq:Int)) ⟨by omega,by omega⟩;obtain⟨yb,yo,e,ev⟩:=(S.tv.src.recv r bw).runs.rng HZ.2.2.1 (i:=j) (x:=cQ rx) (by rw[Ou,fr];rfl);subst e;have ea:=MY (ev wr (NB _ _));obtain⟨nu,nP,jj,_,eA⟩:=S.ww;obtain⟨vb,vo,mt,lB,lU⟩:=eA j _ (Ou.trans (congrArg (Option.map fY) h4));subst mt;have mu:=(Value.slice.inj jj).1;subst mu;have gv:=MY lU;have gu:=MY lB;obtain⟨mI,mK⟩:=ix (k:=j) (n:=mr);obtain⟨ab,cv⟩:=nm wr.heap.size;obtain⟨W7,be⟩:=nm (wr.alloc (.cells (cQ rx).toArray 67));have S7:=de be S (show Blk W7 ab (cQ rx) 67/\eB wr W7 from⟨cv▸kh (cQ rx) _ be,by rw[<-be];exact(NB _ _).alloc (No _) _⟩);clear fr h4 ev jj eA lB lU ex hs;go_upto_region 39 with(first|(refine wR 67 ea.out ?_)|(refine wA cv (.int .i64 (j:Int)) rfl ?_ (cs:=(cQ rx))))
        try(change Code.wp _ _ _ _ (wr.alloc (.cells (cQ rx).toArray 67)))
        try rw[be]
        try simp only[PT]
        clear be cv;have a1:=(S7.1.1.at 1 _ rfl).1;have a2:=(S7.1.1.at 2 _ rfl).1;have al:=S7.1.1.lt;have u0:=(S7.1.2.cell (p:=⟨vb,_,none⟩) gu.out).trans (gv.out 0 _ rfl);have u1:=(S7.1.2.cell (p:=⟨vb,_,none⟩) gu.out).trans (gv.out 1 _ rfl);simp only[Na]at u0;have ul:vb<W7.heap.size:=Nf gu.out S7.1.2.size;have S9:Hid (kU w t N qb bx.heap.size r q (.slice Au m cu) (.slice (some ⟨vb,vo,none⟩) mr cw) (.slice A6 m c6) us ws W7.drew):=keep (NB _ W7).drew (MY S7.2);clear S7 S ea gv;as_aux_lemma=>
         refine aJ (S:=fun w'=>∀b o,b<W7.heap.size->w'.cell? ⟨b,o,none⟩=W7.cell? ⟨b,o,none⟩) [0,1,2,3,4,5,6,7,8,9,10,11] (fun b o _=>rfl) (fun ac=>?_);repeat(first|refine sQ ?_|refine sS ?_)
         refine aj ?_;clear ac;go_wp2_with fail;refine⟨⟨j+1,by omega,by go_num,S9.out⟩,?_⟩;simp[intOf];omega
  ·have:=fQ.out;simp only[M6]at this;omega
section
open Go.ChangeShapes Go.WideShapes
def OT:laidOutB prog=true:=by kernel_rfl
def OS{H:Type}{enc:TypeId×Value->H}{w}{base:Nat}{spare:Nat->Bool}{held:Bool}{fuel:Nat}{cs}{x:DataW H×List MemPlace}(h:DataW.trod enc prog w base spare held fuel 37 cs=some x)(hb:Rows.uptoBulk x.1<=BIG):∃p:Bool×ByteArray×ByteArray,cs=[.bool p.1,.string p.2.1,.string p.2.2]/\True:=Opn.out (E:=⟨enc,w,base,spare,held⟩) ⟨_,_,h,hb⟩
def MV(H:Type)(enc:TypeId×Value->H)(W)(base:Nat)(args)(ds gs:List (DataW H))(ac:List MemPlace)(ad:∀(j:Nat) t v,Tryz.f3.params[j]? = some t->args[j]? = some v->Value.okWide prog W .any base t v)(hW:DataW.Whole enc prog Tryz.f3.params.toList Rows.machineRecipeSpec.vars false W args.toList ds gs ac)(hL:laidMetH prog [("math/bits.deBruijn64tab",Rows.laid_math_bits_deBruijn64tab)] W)(hk:Rows.uptoSmall H (ds++gs)=true) :Calls prog 3 args W fun e W'=>∃v,e=.returned v/\Rows.machineRecipeSpec.post enc prog Tryz.f3 false true false false W args v W':=by
 have ab:=ad;have ar:=hW;obtain⟨p,q,an,hV,rfl,ba,bb⟩:=hW;have hA:DataW.TrodAll enc prog W 0 (fun _=>true) true Tryz.f3.params.toList args.toList ds p:=an;rw[Tryz.params3]at hA ab;obtain⟨v0,v1,v2,v3,v4,v5,d0,d1,d2,d3,d4,d5,p0,p1,p2,p3,p4,p5,rfl,rfl,rfl,h0,h1,h2,h3,h4,h5⟩:=ML hA;obtain⟨rfl,rfl⟩:=trodVars_none hV;have hb:Rows.uptoBulk d0<=BIG:=by
  have h:=of_decide_eq_true hk;simp only[Oz,Rows.uptoBulkAll]at h;exact Nv (Nat.le_add_right _ _) h
 obtain⟨cs,rfl,_⟩:=okWide_struct underlying35 (ab 0 _ v0 rfl rfl);obtain⟨fuel,hf⟩:=h0;obtain⟨t,e,ao⟩:=MJ hf hb;obtain rfl:cs=(aL t).toArray:=Array.toList_inj.1 (by simpa[Value.cells]using e);obtain⟨i,rfl,_,_,_⟩:=open_int underlying3 (ab 1 _ v1 rfl rfl) h1;obtain⟨pl,rfl,_,_,_⟩:=open_int underlying3 (ab 2 _ v2 rfl rfl) h2;obtain⟨dy,rfl,_,_,_⟩:=open_int underlying3 (ab 3 _ v3 rfl rfl) h3;obtain⟨cf,rfl,_,_,ax⟩:=open_int underlying3 (ab 4 _ v4 rfl rfl) h4;obtain⟨al,rfl,_⟩:=okWide_struct underlying37 (ab 5 _ v5 rfl rfl);obtain⟨ag,aA⟩:=h5;have av:Rows.uptoBulk d5<=BIG:=by
  have h:=of_decide_eq_true hk;simp only[Oz,Rows.uptoBulkAll]at h;have:BIG=1048576:=rfl;omega
 obtain⟨⟨neg,n,d⟩,e5,_⟩:=OS aA av;obtain rfl:al=#[.bool neg,.string n,.string d]:=Array.toList_inj.1 (by simpa[Value.cells]using e5);have hc2:cf<=9223372036854775807:=by have:=bounds_i64 ax;omega
 refine(MT t i pl dy cf neg n d W ao (MR hL) hc2).mono fun e W' ⟨he,hb⟩=>?_;exact⟨_,he,MK OT underlying4 rfl (by kernel_rfl) rfl rfl ar hb⟩
noncomputable def vi:Array Value:=#[.agg #[.slice none 0 0,.slice none 0 0,.slice none 0 0,.slice none 0 0,.slice none 0 0,.slice none 0 0,.slice none 0 0,.slice none 0 0,.slice none 0 0,.slice none 0 0],.int .i64 0,.int .i64 0,.int .i64 0,.int .i64 0,.agg #[.bool false,.string ⟨#[]⟩,.string ⟨#[]⟩]]
def reads(os:Os){H:Type}(enc:TypeId×Value->H):∃ab,DataW.whole enc prog ((World.doorLaid prog 400 os).forCall (fun _ _=>0) ⟨#[],vi,[]⟩).memory Tryz.f3.params.toList Rows.machineRecipeSpec.vars false vi.toList 8=some ([.agg [.agg [.nil,.nil,.nil,.nil,.nil,.nil,.nil,.nil],.nil,.nil],.lit (.int .i64 0),.lit (.int .i64 0),.lit (.int .i64 0),.lit (.int .i64 0),.agg [.lit (.bool false),.lit (.string []),.lit (.string [])]],[],ab):=
 ⟨[],by kernel_rfl⟩
def MW(os:Os)(ab:os.Started)(H:Type)(enc:TypeId×Value->H)(F:Stop.Interp) :ReturnsInHanded {} Tryz.checked os 3 .any ((Rows.OpenSpec.upto Rows.machineRecipeSpec).preRow enc prog Tryz.f3 Rows.machineRecipeUptoRow.domain false Rows.machineRecipeUptoRow.laid) (((Rows.OpenSpec.upto Rows.machineRecipeSpec).at F).post enc prog Tryz.f3 false true false false):=by
 obtain⟨al,hx⟩:=reads os enc;refine returnsInHanded_of_row (C:=Tryz.checked) (s:=Rows.OpenSpec.upto Rows.machineRecipeSpec) own0 ab (by kernel_rfl) func3
  (witness_row_atRef (enc:=enc) (C:=Tryz.checked) false (World.doorLaid prog 400 os) vi rfl (by kernel_rfl) (by kernel_rfl) (by kernel_rfl)
   (OpenSpec.preRow_of_cond 8 hx (by kernel_rfl) (fun k hk=>by cases hk;kernel_rfl) (by kernel_rfl) (MS os _))) ?_
 intro W base args ds gs ac ag hW _ ad _ hL _ _;exact MV H enc W base args ds gs ac ag hW hL (ad _ rfl)
def MX:Rows.MachineRecipeUptoSaid:=
 OpenClaim.holds_of_cond 3 Tryz.f3 rfl rfl rfl rfl rfl rfl rfl ⟨rfl,rfl,rfl,rfl,rfl⟩ rfl rfl rfl rfl rfl (by as_aux_lemma=>kernel_rfl) func3 closedRcp
  (of_decide_eq_true (by kernel_rfl)) (by unfold Func.isWrapper;first|(rw[if_pos (by decide +kernel)];kernel_rfl)|(rw[if_neg (by decide +kernel)];exact⟨rfl,rfl⟩))
  (fun os ab H enc _ F=>by rw[OpenClaim.pre_eq_preRow];exact MW os ab H enc F)
theorem machineRecipeUpto_card:Rows.MachineRecipeUptoCardSaid:=
 Claim7.holds_tied_plain_at .later [] _ _ _ _ MX (fun _ h=>by cases h) (by as_aux_lemma=>kernel_rfl) (fun _ h=>by cases h) machineRecipeUpto_row_tie rfl ⟨rfl,rfl⟩ (by as_aux_lemma=>kernel_rfl) rfl
  (fun f fn hf ac=>by
   obtain rfl:f=3:=Option.some.inj ((show prog.funcNamed "backflush/backflushlaw17.MachineRecipe" = some 3 by kernel_rfl).symm.trans hf) |>.symm;obtain rfl:fn=Tryz.f3:=(Option.some.inj (func3.symm.trans ac)).symm;exact⟨by as_aux_lemma=>kernel_rfl,fun j t ht=>by
    rw[Tryz.params3]at ht;have hm:t ∈ [35,3,3,3,3,37]:=by simpa using Array.mem_of_getElem? ht
    have ab:([35,3,3,3,3,37].all fun u=> !prog.wantsStandIn u)=true:=by kernel_rfl
    exact(show prog.wantsStandIn t=false by simpa using Od.1 ab t hm)⟩)
  goesRcp
end
end Go.Proofs.YtgbbhcbkldhjiaaGreatDoor
