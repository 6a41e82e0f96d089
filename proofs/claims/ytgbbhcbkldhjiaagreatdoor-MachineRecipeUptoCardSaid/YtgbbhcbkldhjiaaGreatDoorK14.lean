import Derived.Test.YtgbbhcbkldhjiaaGreatDoorK12
import Derived.Test.YtgbbhcbkldhjiaaGreatDoorK11
import Derived.Test.YtgbbhcbkldhjiaaGreatDoorK08
import Derived.Test.YtgbbhcbkldhjiaaGreatDoorK13
import Derived.Deep.Slices
import Derived.Lib.SmallJoins
import Derived.ProofKit
import Derived.LaidMore
import Derived.OpenShut
import Derived.Stop.Joined
set_option linter.all false
set_option maxRecDepth 100000
set_option maxHeartbeats 16000000
namespace Go.Proofs.YtgbbhcbkldhjiaaGreatDoor
open Go.Proofs.Tryz Go.RowKit Bf
def iG(i j:Nat):Rt:=if i=j then aq else ae
def Ay(i j:Nat):(iG i j).ok:=by unfold iG;split;(· exact jz);exact jy
def jM(a:List (List Rt))(j:Nat):Option (List Rt):=mapO (fun i=>subR (iG i j) (at2 a i j)) (List.range a.length)
def Az(a:List (List Rt)):sysR a=mapO (jM a) (List.range a.length):=rfl
def iH(a:List (List Rt))(d:List Rt):Option (List Rt):=match sysR a with
 |none=>none
 |some rows=>solR rows d a.length
def AA(w:World)(o:Option (List Rt))(e:Ending)(w':World):Prop:=eB w w'/\∃(v:Value)(x:Bool) (k:Int),e=.returned (.tuple #[v,.bool x,.int .i64 k])/\((x=true/\k=0)<->o.isSome=true)/\∀xs,o=some xs->RowC w' 3 v (xs.map aS)
def KI{n:Nat}{a rows:List (List Rt)}(ha:bK n n a)(h:sysR a=some rows):bK n n rows:=by
 rw[Az]at h;refine⟨by rw[cA h,N7,ha.len],fun r hr=>?_⟩;obtain⟨j,hj,e⟩:=kL h hr;rw[OH,ha.len]at hj;unfold jM at e;refine⟨by rw[cA e,N7,ha.len],fun x hx=>?_⟩;obtain⟨i,hi,e2⟩:=kL e hx;rw[OH,ha.len]at hi;obtain⟨_,y,_,_,e3,e4⟩:=ha.num hi hj;rw[e3]at e2;exact py e2 (Ay i j) e4
def KJ{w}{n:Nat}{av dv}{M:List bQ}{d}(h:fS w n av dv M d)(hT:Tab w):Calls prog 254 #[av,dv] w (AA w (iH (M.map (·.l)) d)):=by
 have fz:=h.small;have cD:Hid (∀W,eB w W->Tab W):=fun W hW=>hT.below hW;have ch:Hid (bK n n (M.map (·.l))):=⟨by rw[N6];exact h.mlen,fun r hr=>by
  obtain⟨q,hq,rfl⟩:=OE.1 hr;exact h.row q hq⟩
 have cC:Hid (∀W v M' rows,eB w W->M'.map (·.l)=rows->gj W v M'->bK n n rows->fS W n v dv M' d):=fun W v M' rows hW e hM hR=>⟨hM,h.rhs.below hW,h.small,by rw[<-hR.len,<-e,N6],h.blen,fun r hr=>hR.row r.l (by rw[<-e];exact List.mem_map_of_mem hr),h.bok⟩
 obtain⟨a,ha⟩:=nm (M.map (·.l));rw[ha]at ch⊢;have eD:Hid (∀i j,i<n->j<n->∃r x,M[i]? = some r/\r.l[j]? = some x/\at2 a i j=x/\x.ok):=fun i j hi hj=>by
  obtain⟨r,x,e1,e2,e3,e4⟩:=ch.num hi hj;rw[<-ha,Ou]at e1
  cases hq:M[i]? with
  |none=>rw[hq]at e1;cases e1
  |some q=>rw[hq]at e1;cases e1;exact⟨q,x,rfl,e2,e3,e4⟩
 obtain⟨A,c,ev⟩:=h.mat.top.len;obtain⟨Ad,cd,ed⟩:=h.rhs.len;rw[N6,h.mlen]at ev;rw[N6,h.blen]at ed;subst ev ed;have eb:=MY h.mlen;have H:=MY h;have cc:Hid (a.length=n):=ch.len;obtain⟨res,ax⟩:=nm (sysR a);have bo:Hid (mapO (jM a) (List.range n)=res):=by show _=_;rw[<-ax,Az,cc.out]
 obtain⟨fin,ba⟩:=nm (iH a d);have eP:Hid (res=none->fin=none):=fun e=>by rw[<-ba];unfold iH;rw[ax,e]
 have eR:Hid (∀rows,res=some rows->fin=solR rows d n):=fun rows e=>by rw[<-ba];unfold iH;rw[ax,e,<-cc.out]
 have cw:Hid (∀rows,res=some rows->bK n n rows):=fun rows e=>KI ch.out (ax.trans e);rw[ba];have bh:=zf n (by omega) w;obtain⟨g,hg⟩:=nm w.heap.size;rw[hg]at bh;obtain⟨W1,cl⟩:=nm (w.alloc (.cells (Array.replicate n (.slice none 0 0)) 241));have S1:Hid (cX w g n [] [] W1):=by
  have e:=Blk.new w (List.replicate n (.slice none 0 0)) 241;rw[hg,OQ,cl]at e;exact⟨by rw[<-cl];exact ak _ _,by rw[zb];exact e,by rw[hg];exact No _,fun x h=>(by cases h),rfl,fun i x l h=>by simp at h⟩
 have fQ:(0:Int)<=(n:Int):=by omega
 rw[cl]at bh;clear h hT ha ax ba;go_enter func254,ntmps254;go_wp2_with fail;clear bh cl hg;go_loopw [20] (fun z W=>∃(j:Nat)(gs:List Nat) (rows:List (List Rt)),j<=n/\z=.int .i64 j/\gs.length=j/\Hid (mapO (jM a) ((List.range n).take j)=some rows)/\Hid (cX w g n gs rows W)) (fun z _=>n-(intOf z).toNat)
 case atStart=>exact⟨0,[],[],Nu _,rfl,rfl,rfl,S1.out⟩
 case round=>
  obtain⟨j,gs,rows,hj,rfl,en,HM,S⟩:=hrel;rename World=>W0;have bb:=MY en;clear S1 en;by_cases bw:j<n
  case neg=>
   obtain rfl:n=j:=by omega
   have HE:Hid (res=some rows):=by
    have:=HM.out;rw[Ny (by simp)]at this;show _=_;rw[<-bo.out,this]
   obtain⟨M2,cP,ei⟩:=S.mat bb.out;have fb:=MY (cC.out W0 _ M2 rows S.bl cP ei (cw.out rows HE.out));have cv:=MY (KH fb.out (cD.out W0 S.bl));rw[cP]at cv;have cf:=MY (eR.out rows HE.out);clear cP ei;go_wp2_with fail;refine cv.mono ?_;rintro e w2 ⟨be,cb,xv,pv,k,rfl,bv,eA⟩;have B2:Hid (eB w w2):=S.bl.trans (be.mono S.bl.size);have HI:=MY bv;have HX:=MY eA;clear be bv eA cv;by_cases hk:k=0
   case neg=>
    have t1:decide (¬k=0)=true:=by simpa using hk
    have bc:Hid (fin=none):=by
     show _=_;rw[cf.out]
     cases hq:solR rows d n with
     |none=>rfl
     |some xs=>exact absurd (HI.2 (by rw[hq];rfl)).2 hk
    go_wp2_with fail;refine bodyPost_ret (v:= .tuple #[.slice none 0 0,.bool false,.int .i64 k]) (by simp[results,results254,go_sem]) rfl ?_;exact⟨B2.out,_,false,k,rfl,⟨fun h=>absurd h.1 (by decide),fun h=>by rw[bc.out]at h;cases h⟩,fun xs h=>by rw[bc.out]at h;cases h⟩
   subst hk;by_cases dl:cb=1
   case neg=>
    have t1:(cb != 1)=true:=by simpa using dl
    have bc:Hid (fin=none):=by
     show _=_;rw[cf.out]
     cases hq:solR rows d n with
     |none=>rfl
     |some xs=>exact absurd (HI.2 (by rw[hq];rfl)).1 dl
    go_wp2_with fail;refine bodyPost_ret (v:= .tuple #[.slice none 0 0,.bool false,.int .i64 0]) (by simp[results,results254,go_sem]) rfl ?_;exact⟨B2.out,_,false,0,rfl,⟨fun h=>absurd h.1 (by decide),fun h=>by rw[bc.out]at h;cases h⟩,fun xs h=>by rw[bc.out]at h;cases h⟩
   subst dl;have ci:Hid (fin.isSome=true):=by
    show _=_;rw[cf.out];exact HI.1 ⟨rfl,rfl⟩
   have fi:Hid (∀xs,fin=some xs->RowC w2 3 xv (xs.map aS)):=fun xs h=>HX.out xs (by rw[<-cf.out];exact h);go_wp2_with fail;refine bodyPost_ret (v:= .tuple #[xv,.bool true,.int .i64 0]) (by simp[results,results254,go_sem]) rfl ?_;exact⟨B2.out,_,true,0,rfl,⟨fun _=>ci.out,fun _=>⟨rfl,rfl⟩⟩,fi.out⟩
  obtain⟨l0,eo,dn⟩:=tK n (by omega) W0;obtain⟨x6,cq⟩:=nm W0.heap.size;rw[cq]at dn;obtain⟨W3,cm⟩:=nm (W0.alloc (.cells l0.toArray 37));have df:eB W0 W3:=by rw[<-cm];exact ak _ _
  have R3:Hid (Blk W3 x6 l0 37):=by rw[<-cm,<-cq];exact Blk.new _ _ _
  have S3:=MY (S.below df);have aA:Hid (g<x6/\(∀y∈gs,y<x6)):=by rw[<-cq];exact⟨S.top.lt,S.lt⟩
  obtain⟨tq,hq⟩:=gx (l:=(dh gs n)) (i:=j) (by rw[zc (by rw[bb.out];omega)];exact bw);obtain⟨q0,qf⟩:=S3.top.at j tq hq;have ql:=S3.top.lt;obtain⟨W7,db⟩:=nm (W3.setCell ⟨g,j,none⟩ (.slice (some ⟨x6,0,none⟩) n n));have T7:Hid (Blk W7 g (dh (gs++[x6]) n) 241):=by
   have:=S3.top.set j (.slice x6 n n);rw[<-bb.out,zd (by rw[bb.out];exact bw),bb.out,db]at this;exact this
  have cn:W3.grownBy W7 (some g):=by rw[<-db];exact cM _ _ _ _
  have R7:Hid (Blk W7 x6 l0 37):=R3.grown cn (fun e=>by have:=aA.1;have:=Option.some.inj e;omega);have B7:Hid (eB w W7):=S3.bl.grown cn S3.bl.size (fun k e=>by cases e;exact S3.lo);have fl:Hid (∀y∈gs,W7.heap[y]? = W0.heap[y]?):=fun y hy=>(cn.block y (Nf (aA.2 y hy) (NS R3.lt)) (fun e=>by have:=S.hi y hy;have:=Option.some.inj e;omega)).trans (df.block y (S.lt y hy));have ef:Hid (b9 W7 x6 n []):=b9.new R7.out eo;obtain⟨fr,fs⟩:=ix (k:=j) (n:=n);rw[cm]at dn;clear df cn hq eo;go_wp2_with fail;clear dn cm db q0 qf ql cq;go_loopw [31] (fun z W=>∃(i:Nat)(L:List Rt),i<=n/\z=.int .i64 i/\L.length=i/\Hid (mapO (fun i=>subR (iG i j) (at2 a i j)) ((List.range n).take i)=some L)/\Hid (b9 W x6 n L)/\Hid (W7.grownBy W (some x6))) (fun z _=>n-(intOf z).toNat)
  case atStart=>exact⟨0,[],Nu _,rfl,rfl,rfl,ef.out,World.grownBy.refl _ _⟩
  case round=>
   obtain⟨i,L,hi,rfl,eg,bm,RB,GW⟩:=hrel;have bk:=MY eg;clear ef eg;have GB:Hid (eB w wr):=B7.grown GW.out B7.size (fun k e=>by cases e;exact NS (Nt S.lo aA.1));have GT:Hid (Blk wr g (dh (gs++[x6]) n) 241):=T7.grown GW.out (fun e=>by have:=aA.1;have:=Option.some.inj e;omega);by_cases bg:i<n
   case neg=>
    obtain rfl:n=i:=by omega
    have bp:Hid (jM a j=some L):=by
     have:=bm.out;rw[Ny (by simp)]at this;show _=_;unfold jM;rw[cc.out,this]
    have eS:Hid (mapO (jM a) ((List.range n).take (j+1))=some (rows++[L])):=ir (jf bw) HM.out bp.out;have S9:Hid (cX w g n (gs++[x6]) (rows++[L]) wr):=S.next aA.1 GT.out GB.out (RB.done bk.out) bk.out (fun y hy=>(GW.block y (Nat.lt_trans (aA.2 y hy) R7.lt) (fun e=>by have:=aA.2 y hy;have:=Option.some.inj e;omega)).trans (fl.out y hy))
    go_wp2_with fail;refine⟨⟨j+1,gs++[x6],_,by omega,by go_num,by rw[Oe,bb.out];rfl,eS.out,S9.out⟩,?_⟩;simp[intOf];omega
   obtain⟨r,x,hr,hx,el,ez⟩:=eD.out i j bg bw;obtain⟨fo,fq⟩:=ix (k:=i) (n:=n);have bn:Hid (Calls prog 33 #[.int .i64 (if i=j then 1 else 0),.int .i64 1] wr (Ret wr (.tuple #[.agg #[.bool (iG i j).neg,.string (bs (iG i j).n),.string (bs (iG i j).d)],.int .i64 0]))):=by
    have:=uF (decide (i=j)) wr (cD.out wr GB.out);simp only[decide_eq_true_eq]at this;exact this
   obtain⟨ow,co⟩:=nm (iG i j);have eU:Hid (ow.ok):=by rw[<-co];exact Ay i j
   obtain⟨so,ds⟩:=nm (subR ow x);have fc:=MY ds;have ci:Hid (subR (iG i j) (at2 a i j)=so):=by show _=_;rw[co,el,ds]
   obtain⟨ab,ao,ac,A',c',e,_,_,er⟩:=H.mat.at GB.out hr;rw[eb.out]at e
   cases e;have cp:=(H.row r (Oc hr)).1;rw[cp]at er;have ex:=H.mat.rows r (Oc hr);rw[er]at ex;obtain⟨A2,c2,e2,_,eu⟩:=ex;rw[N6,cp]at e2
   cases e2;obtain⟨rb,ro,rfl,et,ew⟩:=eu j (aS x) (by rw[Ou,hx];rfl);have fe:=MY ez;have ee:Hid (∀V,eB w V->V.cell? ⟨ab,ao+i,none⟩=some (.slice (some ⟨rb,ro,none⟩) n c')/\ab<V.heap.size/\V.rangeAt rb (ro+j*3) [.bool x.neg,.string (bs x.n),.string (bs x.d)]):=fun V hV=>by
    obtain⟨b1,o1,c1,A1,fx,e1,e2,e3,e4⟩:=H.mat.at hV hr;rw[eb.out]at e1
    cases e1;rw[cp,]at e2 e4;rw[er]at e4
    cases e4;exact⟨e2,e3,fun k u hu=>(hV.cell (p:=⟨rb,_,none⟩) et).trans (ew k u hu)⟩
   rw[co]at bn;clear hr hx el ez er cp eu ew et co ds;by_cases di:i=j
   case' pos=>
    have dk:((i:Int)==(j:Int))=true:=by simp;omega
    rw[if_pos di]at bn
   case' neg=>
    have dk:((i:Int)==(j:Int))=false:=by simp;omega
    rw[if_neg di]at bn
   all_goals
    clear di
    go_wp2_with fail
    refine bn.mono ?_
    rintro e w2 ⟨rfl,be⟩
    obtain⟨ob,dr⟩:=nm w2.heap.size
    obtain⟨W8,dd⟩:=nm (w2.alloc (.cells #[.bool ow.neg,.string (bs ow.n),.string (bs ow.d)] 37))
    have bu:eB wr W8:=by rw[<-dd];exact be.alloc be.size _
    have O8:Hid (Blk W8 ob [.bool ow.neg,.string (bs ow.n),.string (bs ow.d)] 37):=by rw[<-dd,<-dr];exact Blk.new _ _ _
    have cN:Hid (x6<ob):=by
     rw[<-dr];obtain⟨_,l,hl,_⟩:=RB.out;exact Nf hl.lt be.size
    have fn:=MY (RB.below bu)
    have eC:Hid (W7.grownBy W8 (some x6)):=fO GW.out (du bu _)
    have cr:=MY (GT.below bu GT.lt)
    have B8:Hid (eB w W8):=GB.trans (bu.mono GB.size)
    have t8:=(cr.at j _ (tR (by rw[N5 (by rw[bb.out];exact No _),bb.out,Nat.sub_self];rfl))).1
    have ec:Hid (∀V,eB W8 V->(V.cell? ⟨g,j,none⟩=some (.slice x6 n n)/\g<V.heap.size)/\Blk V ob [.bool ow.neg,.string (bs ow.n),.string (bs ow.d)] 37/\V.cell? ⟨ab,ao+i,none⟩=some (.slice (some ⟨rb,ro,none⟩) n c')/\ab<V.heap.size/\V.rangeAt rb (ro+j*3) [.bool x.neg,.string (bs x.n),.string (bs x.d)]):=fun V hV=>⟨⟨(hV.cell (p:=⟨g,j,none⟩) cr.lt).trans t8,Nf cr.lt hV.size⟩,O8.below hV O8.lt,ee.out V (B8.trans (hV.mono B8.size))⟩
    have ad:=lq ow x W8.drew eU.out fe.out (cD.out _ B8.drew)
    rw[fc.out]at ad
    have ad:=MY ad
    clear be bu bn
    go_wp2_with fail
    clear dd dr
    refine aJ (S:=fun w'=>(w'.cell? ⟨g,j,none⟩=some (.slice x6 n n)/\g<w'.heap.size)/\Blk w' ob [.bool ow.neg,.string (bs ow.n),.string (bs ow.d)] 37/\w'.cell? ⟨ab,ao+i,none⟩=some (.slice (some ⟨rb,ro,none⟩) n c')/\ab<w'.heap.size/\w'.rangeAt rb (ro+j*3) [.bool x.neg,.string (bs x.n),.string (bs x.d)]) [0,1,2,3,4,5,6,7,8,9,10,11,12,1013,14,15,16,17,1018,19] (ec.out _ (NB _ W8).drew) (fun an=>?_)
    repeat(first|(refine sR 37 (fun w' cR=>ai cR.2.1) ?_)|(refine sR 37 (fun w' cR=>cR.2.2.2.2) ?_)|(refine sQ ?_)|(refine sS ?_))
    refine az fun K hK=>?_
    go_simp
    refine ad.mono ?_
    rintro e w9 ⟨rfl,em⟩
    have ar:eB W8 w9:=(NB _ W8).drew.trans em
    have bt:=MY (fn.below ar)
    have dT:Hid (W7.grownBy w9 (some x6)):=fO eC.out (du ar _)
    have bi:=MY (ec.out w9 ar)
    have ea:Hid (eB w w9):=B8.trans (ar.mono B8.size)
    obtain⟨gg,sn,sd,ev,es,ep⟩:∃(g:Bool)(sn sd:ByteArray) (ev:Int),calcV so=.tuple #[.agg #[.bool g,.string sn,.string sd],.int .i64 ev]/\((so=none/\ev=2)\/(∃x,so=some x/\ev=0/\g=x.neg/\sn=bs x.n/\sd=bs x.d)):=by
     cases so with
     |none=>exact⟨_,_,_,_,rfl,Or.inl ⟨rfl,rfl⟩⟩
     |some x=>exact⟨_,_,_,_,rfl,Or.inr ⟨x,rfl,rfl,rfl,rfl,rfl⟩⟩
    have eV:=MY ep
    rw[es]
    obtain⟨v0,c0,f0,fv⟩:=bt.cells bg 0 (by omega)
    obtain⟨v1,c1,f1,_⟩:=bt.cells bg 1 (by omega)
    obtain⟨v2,c2,f2,_⟩:=bt.cells bg 2 (by omega)
    rw[Na]at c0 f0
    have bx:x6≠g:=by have:=aA.1;omega
    have ca:ob≠x6:=by have:=cN.out;omega
    obtain⟨al,bd⟩:=nm (((w9.setCell ⟨x6,i*3,none⟩ (.bool gg)).setCell ⟨x6,i*3+1,none⟩ (.string sn)).setCell ⟨x6,i*3+2,none⟩ (.string sd))
    have ag:w9.grownBy al (some x6):=by rw[<-bd];exact fO (fO (cM _ _ _ _) (cM _ _ _ _)) (cM _ _ _ _)
    have dy:Hid (eB w al):=ea.grown ag ea.size (fun k e=>by cases e;exact NS (Nt S.lo aA.1))
    have cx:Hid ((al.cell? ⟨g,j,none⟩=some (.slice x6 n n)/\g<al.heap.size)/\Blk al ob [.bool ow.neg,.string (bs ow.n),.string (bs ow.d)] 37/\al.cell? ⟨ab,ao+i,none⟩=some (.slice (some ⟨rb,ro,none⟩) n c')/\ab<al.heap.size/\al.rangeAt rb (ro+j*3) [.bool x.neg,.string (bs x.n),.string (bs x.d)]):=⟨⟨ag.cell (a:=⟨g,j,none⟩) bi.1.1 (fun e=>bx (Option.some.inj e).symm),Nf bi.1.2 ag.size⟩,bi.2.1.grown ag (fun e=>ca (Option.some.inj e)),ee.out al dy.out⟩
    have cs:Hid (W7.grownBy al (some x6)):=fO dT.out ag
    have br:Hid (∀x:Rt,gg=x.neg->sn=bs x.n->sd=bs x.d->b9 al x6 n (L++[x])):=fun x e1 e2 e3=>by
     have:=bt.put (by rw[bk.out];exact bg) x;rw[bk.out,<-e1,<-e2,<-e3,bd]at this;exact this
    have cz:=bi.1.1
    clear es ep em ar ag t8 ad bx ca
    go_wp2_with fail
    refine hG hK (by exact bi.out) fun an=>?_
    clear hK K
    repeat refine ay ?_
    refine az fun K hK=>?_
    go_simp
    refine hG hK (by exact cx.out) fun an=>?_
    clear hK K
    repeat refine ay ?_
    refine aj ?_
    clear bd c0 c1 c2 f0 f1 f2 fv cz an bi bt dT
    rcases eV.out with⟨rfl,rfl⟩|⟨z,rfl,rfl,e1,e2,e3⟩
    ·have bc:Hid (fin=none):=by
      refine eP.out ?_;rw[<-bo.out];refine iw (jf bw) ?_;unfold jM;rw[cc.out];exact iw (jf bg) ci.out
     clear fr fs fo fq;go_wp2_with fail;refine bodyPost_ret (v:= .tuple #[.slice none 0 0,.bool false,.int .i64 2]) (by simp[results,results254,go_sem]) rfl ?_;exact⟨dy.out,_,false,2,rfl,⟨fun h=>absurd h.1 (by decide),fun h=>by rw[bc.out]at h;cases h⟩,fun xs h=>by rw[bc.out]at h;cases h⟩
    ·have eY:=MY (br.out z e1 e2 e3)
     have cu:Hid (mapO (fun i=>subR (iG i j) (at2 a i j)) ((List.range n).take (i+1))=some (L++[z])):=ir (jf bg) bm.out ci.out
     clear e1 e2 e3 br
     go_wp2_with fail
     refine⟨⟨i+1,L++[z],by omega,by go_num,by rw[Oe,bk.out];rfl,cu.out,eY.out,cs.out⟩,?_⟩
     simp[intOf];omega
def AB(w:World)(o:Bool)(e:Ending)(w':World):Prop:=eB w w'/\∃(x:Bool)(k:Int),e=.returned (.tuple #[.bool x,.int .i64 k])/\((x=true/\k=0)<->o=true)
def AE:Option (List Rt)->Bool
 |none=>false
 |some x=>x.all fun r=> !r.neg
def KL(a:List (List Rt)):jI a=AE (iH a (List.replicate a.length aq)):=by
 unfold jI iH
 cases sysR a with
 |none=>rfl
 |some rows=>rfl
def KM{s t:ElS}{j:Nat}(h:gL s j=some t):t.piv.length=s.piv.length+1:=by
 unfold gL at h;split at h
 ·cases h;simp
 ·split at h
  ·cases h
  ·split at h
   ·cases h
   ·cases h;simp
def AF{R:List (List Rt)}:∀{j:Nat} {s:ElS},elimTo R j=some s->s.piv.length=j
 |0,s,h=>by cases h;rfl
 |j+1,s,h=>by
  unfold elimTo at h;split at h
  ·rename_i t ht;rw[KM h,AF ht]
  ·cases h
def KN{a:List (List Rt)}{d xs}(h:iH a d=some xs):xs.length=a.length:=by
 unfold iH at h;split at h
 ·cases h
 ·unfold solR at h;split at h
  ·cases h
  ·rename_i s hs;split at h
   ·cases h
   ·rw[cA h,AF hs]
def KO(n:Nat)(x:Rt):((List.replicate n [Value.bool x.neg,.string (bs x.n),.string (bs x.d)]):List (List Value)).flatten=dI (List.replicate n x):=by
 unfold dI;rw[List.map_replicate];rfl
def KP{w}{n:Nat}{av}{M:List bQ}(hM:gj w av M)(bo:n<=32)(ag:M.length=n)(ao:∀r∈M,r.l.length=n/\∀x∈r.l,x.ok)(hT:Tab w):Calls prog 209 #[av] w (AB w (jI (M.map (·.l)))):=by
 have HM:=MY hM;have ax:Hid (∀W dv,eB w W->RowC W 3 dv ((List.replicate n aq).map aS)->Calls prog 254 #[av,dv] W (AA W (iH (M.map (·.l)) (List.replicate n aq)))):=fun W dv hW hd=>
  KJ ⟨hM.below hW,hd,bo,ag,by simp,ao,fun x hx=>by rw[List.eq_of_mem_replicate hx];exact jz⟩ (hT.below hW)
 have ar:=MY (uF true w hT);obtain⟨o,ho⟩:=nm (iH (M.map (·.l)) (List.replicate n aq));have ad:Hid (jI (M.map (·.l))=AE o):=by
  show _=_;rw[KL,N6,ag,ho]
 have bk:Hid (∀xs,o=some xs->xs.length=n):=fun xs e=>by
  have:=KN (ho.trans e);rwa[N6,ag]at this
 obtain⟨sf,bx⟩:=nm (jI (M.map (·.l)));rw[bx]at ad⊢;rw[ho]at ax;obtain⟨A,c,ev⟩:=hM.top.len;rw[N6,ag]at ev;subst ev;simp only[if_true]at ar;go_enter func209,ntmps209;go_wp2_with fail;refine ar.mono ?_;rintro e w2 ⟨rfl,bd⟩;obtain⟨ob,bv⟩:=nm w2.heap.size;obtain⟨W3,ba⟩:=nm (w2.alloc (.cells #[.bool aq.neg,.string (bs aq.n),.string (bs aq.d)] 37));have B3:Hid (eB w W3):=by rw[<-ba];exact bd.alloc bd.size _
 have O3:Hid (Blk W3 ob [.bool aq.neg,.string (bs aq.n),.string (bs aq.d)] 37):=by rw[<-ba,<-bv];exact Blk.new _ _ _
 obtain⟨gb,bu⟩:=nm W3.heap.size;obtain⟨W4,bc⟩:=nm (W3.alloc (.cells #[.bool aq.neg,.string (bs aq.n),.string (bs aq.d)] 37));have e4:=Blk.new W3 [.bool aq.neg,.string (bs aq.n),.string (bs aq.d)] 37;rw[bu,bc]at e4;have bl:=MY (yY gb 1 n aq 37 W4 e4 (by omega));have B4:Hid (eB w W4):=by rw[<-bc];exact B3.alloc B3.size _
 go_wp2_with (refine wR 37 (ai O3.out) ?_);refine bl.mono ?_;rintro e w5 ⟨bp,x5,rfl,_,be⟩;have B5:Hid (eB w w5):=B4.trans (bp.mono B4.size);have HC:=MY (ax.out w5 (.slice x5 n n) B5.out (tQ (by rw[KO]at be;exact be) (by simp) n (No _)));go_wp2_with fail;refine HC.mono ?_;rintro e w6 ⟨br,v,x,k,rfl,an,ac⟩;have B6:Hid (eB w w6):=B5.trans (br.mono B5.size);have HI:=MY an;have HX:=MY ac;by_cases hk:k=0
 case neg=>
  have t1:decide (¬k=0)=true:=by simpa using hk
  have ab:Hid (sf=false):=by
   have:=ad.out
   cases o with
   |none=>exact this
   |some xs=>exact absurd (HI.2 rfl).2 hk
  go_wp2;go_ret2;exact⟨B6.out,false,k,rfl,⟨fun h=>absurd h.1 (by decide),fun h=>by rw[ab.out]at h;cases h⟩⟩
 subst hk
 cases x with
 |false=>
  have ab:Hid (sf=false):=by
   have:=ad.out
   cases o with
   |none=>exact this
   |some xs=>exact absurd (HI.2 rfl).1 (by decide)
  go_wp2
  go_ret2
  exact⟨B6.out,false,0,rfl,⟨fun h=>absurd h.1 (by decide),fun h=>by rw[ab.out]at h;cases h⟩⟩
 |true=>
  obtain⟨xs,ac⟩:∃xs,o=some xs:=Option.isSome_iff_exists.1 (HI.1 ⟨rfl,rfl⟩)
  have bn:=MY (HX.out xs ac)
  have aA:Hid (sf=xs.all fun r=> !r.neg):=by
   have:=ad.out;rw[ac]at this;exact this
  obtain⟨Ax,cx,ex,_,bw⟩:=bn.out
  rw[N6]at ex
  have bm:=MY bw
  have HQ:=MY (bk.out xs ac)
  rw[HQ.out]at ex
  subst ex
  go_wp2_with fail
  go_loopw [35] (fun z W=>∃k:Nat,k<=n/\z=.int .i64 k/\Hid (∀y∈xs.take k,y.neg=false)/\Hid (eB w6 W)) (fun z _=>n-(intOf z).toNat)
  case atStart=>exact⟨0,Nu _,rfl,by simp[Hid],NB _ _⟩
  case round=>
   obtain⟨k,hk,rfl,HA,B⟩:=hrel
   have BW:Hid (eB w wr):=B6.trans (B.mono B6.size)
   by_cases cc:k<n
   case neg=>
    obtain rfl:n=k:=by omega
    have HE:Hid (sf=true):=by
     show _=_;rw[aA.out,Od];intro y hy;rw[HA.out y (by rw[Ny (by have:=HQ.out;omega)];exact hy)];rfl
    go_wp2
    go_ret2
    exact⟨BW.out,true,0,rfl,⟨fun _=>HE.out,fun _=>⟨rfl,rfl⟩⟩⟩
   obtain⟨y,hy⟩:=gx (l:=xs) (i:=k) (by have:=HQ.out;omega)
   obtain⟨bb,off,rfl,bt,hc⟩:=bm.out k (aS y) (by rw[Ou,hy];rfl)
   have bi:Hid (wr.rangeAt bb (off+k*3) [.bool y.neg,.string (bs y.n),.string (bs y.d)]):=fun i u hu=>(B.cell (p:=⟨bb,_,none⟩) bt).trans (hc i u hu)
   obtain⟨xb,bg⟩:=nm wr.heap.size
   obtain⟨W7,al⟩:=nm (wr.alloc (.cells #[.bool y.neg,.string (bs y.n),.string (bs y.d)] 37))
   have X7:=Blk.new wr [.bool y.neg,.string (bs y.n),.string (bs y.d)] 37
   rw[bg,al]at X7
   have B7:Hid (eB w6 W7):=by rw[<-al];exact B.alloc B.size _
   have x0:=(X7.at 0 _ rfl).1
   have xl:=X7.lt
   have HY:=MY hy
   obtain⟨ca,cb⟩:=ix (k:=k) (n:=n)
   go_upto_region 10 with(first|(refine wR 37 bi.out ?_)|(refine wB bg rfl ?_ (cs:=[.bool y.neg,.string (bs y.n),.string (bs y.d)])))
   change Code.wp _ _ _ _ (wr.alloc (.cells #[.bool y.neg,.string (bs y.n),.string (bs y.d)] 37))
   rw[al]
   simp only[PT]
   obtain⟨t,ht⟩:=nm y.neg
   have HT:=MY ht
   rw[ht]at x0
   cases t with
   |true=>
    have ab:Hid (sf=false):=by
     show _=_;rw[aA.out,List.all_eq_false];exact⟨y,Oc HY.out,by rw[HT.out];simp⟩
    have B8:Hid (eB w W7):=B6.trans (B7.mono B6.size)
    go_wp2
    go_ret2
    exact⟨B8.out,false,0,rfl,⟨fun h=>absurd h.1 (by decide),fun h=>by rw[ab.out]at h;cases h⟩⟩
   |false=>
    have bh:=MY (sM HA.out HY.out HT.out)
    go_wp2_with fail
    refine⟨⟨k+1,by omega,by go_num,bh.out,B7.out⟩,?_⟩
    simp[intOf];omega
section
open Go.ChangeMaps (setBlock)
def uH{s:SrcR}{r}{j:Int}(hU:bI s.units)(hO:im s r):∀(l:List aw)(x y:Rt),(∀a∈l,bM s a=true)->x.ok->cK s r j l x=some y->y.ok
 |[],x,y,_,hx,h=>by cases h;exact hx
 |a::l,x,y,hl,hx,h=>by
  rw[cK]at h;split at h
  ·exact uH hU hO l x y (fun b hb=>hl b (by simp[hb])) hx h
  ·cases hg:goodR s r with
   |none=>rw[hg]at h;cases h
   |some g=>
    cases ha:amtR s a with
    |none=>rw[hg,ha]at h;cases h
    |some n=>
     cases hq:divR n g with
     |none=>rw[hg,ha]at h;simp only[hq]at h;cases h
     |some q=>
      cases hz:addR x q with
      |none=>rw[hg,ha]at h;simp only[hq,hz]at h;cases h
      |some z=>
       rw[hg,ha]at h
       simp only[hq,hz]at h
       have h1:=qw hU hO hg
       have h2:=(gJ hU (hl a (by simp)) ha).1
       exact uH hU hO l z y (fun b hb=>hl b (by simp[hb])) (pw hz hx (ny hq h2 h1.1 h1.2)) h
def Li{s}(ht:TypesOk s){r}(hm:r∈s.recs):im s r/\∀a∈r.ins,bM s a=true:=by
 have h1:bG s r=true:=by
  have:=ht.2.2;unfold fF at this;simp only[Ob,Od]at this;exact this.2.2.2.2.1 r hm
 refine⟨lK h1,fun a ha=>?_⟩;unfold bG at h1;simp only[Ob,Od]at h1;exact h1.2.2.1 a ha
def Lj{s}{b:List Int}{a:List (List Rt)}(ht:TypesOk s)(h:matR s b=some a):a.length=s.items.length/\∀r∈a,r.length=s.items.length/\∀x∈r,x.ok:=by
 rw[zB]at h;refine⟨by rw[cA h,N7],fun r hr=>?_⟩;obtain⟨i,_,hi⟩:=kL h hr;unfold gT at hi;split at hi
 ·split at hi
  ·rename_i q hq;refine⟨by rw[cA hi,N7],fun x hx=>?_⟩;obtain⟨j,_,hj⟩:=kL hi hx;have h1:=Li ht (Oc hq);exact uH ht.1 h1.1 _ _ _ h1.2 jy hj
  ·cases hi
 ·cases hi;exact⟨by simp,fun x hx=>by rw[List.eq_of_mem_replicate hx];exact jy⟩
def gq(s:SrcR)(b:List Int):Bool:=match matR s b with
 |some a=>jI a
 |none=>false
def ox(s:SrcR)(p d:Int)(c:List Int):Prop:=(byR s p d c).2=true->gq s (byR s p d c).1=true
def oy(s:SrcR)(p d:Int):Prop:=∀c∈fd s,ox s p d c
def jN(s:SrcR):Prop:=∀p:Nat,p<s.plants.length->∀d,kK s p d->oy s p d
structure dZ(s:SrcR)(mb:Nat)(w3:World)(kv:List (Value×Value))(V:World):Prop where
 bl:eB w3 V
 mp:aK V mb kv
 ok:∀p∈kv,∃l:List Int,l.length=32/\p=(.agg (byC l).toArray,.bool true)/\gq s l=true
 le:w3.heap.size<=mb
def dZ.key{s}{mb:Nat}{w3 V}{kv:List (Value×Value)}(h:dZ s mb w3 kv V):∀p∈kv,KdA p.1:=fun p hp=>by
 obtain⟨l,h1,rfl,_⟩:=h.ok p hp;exact⟨l,h1,rfl⟩
def dZ.below{s}{mb:Nat}{w3 V W}{kv:List (Value×Value)}(h:dZ s mb w3 kv V)(hb:eB V W):dZ s mb w3 kv W:=⟨h.bl.trans (hb.mono h.bl.size),h.mp.below hb h.mp.lt,h.ok,h.le⟩
def upd_in{kv:List (Value×Value)}{k v}{p:Value×Value}(h:p∈aF kv k v):p∈kv\/p=(k,v):=by
 induction kv with
 |nil=>simpa[aF]using h
 |cons q l ih=>
  simp only[aF]at h
  split at h
  ·rcases Og.1 h with h|h
   ·exact .inr h
   ·exact .inl (by simp[h])
  ·rcases Og.1 h with h|h
   ·exact .inl (by simp[h])
   ·rcases ih h with h|h
    ·exact .inl (by simp[h])
    ·exact .inr h
def Ll{kv:List (Value×Value)}{k v}(h:aD kv k=some v):(k,v)∈kv:=by
 induction kv with
 |nil=>cases h
 |cons q l ih=>
  simp only[aD]at h
  split at h
  ·rename_i e
   cases h
   rw[<-e]
   simp
  ·simp[ih h]
def dZ.hit{s}{mb:Nat}{w3 V}{kv:List (Value×Value)}(h:dZ s mb w3 kv V){b:List Int}{v}(hv:aD kv (.agg (byC b).toArray)=some v):v=.bool true/\gq s b=true:=by
 obtain⟨l,_,e,hf⟩:=h.ok _ (Ll hv);injection e with e1 e2;injection e1 with e1;have:b=l:=zS (by simpa using e1);subst this;exact⟨e2,hf⟩
def dZ.put{s}{mb:Nat}{w3 V}{kv:List (Value×Value)}(h:dZ s mb w3 kv V){b:List Int}(hl:b.length=32)(hf:gq s b=true){W}(hb:Below (setBlock V mb (cB (aF kv (.agg (byC b).toArray) (.bool true)))).heap.size (setBlock V mb (cB (aF kv (.agg (byC b).toArray) (.bool true)))) W):dZ s mb w3 (aF kv (.agg (byC b).toArray) (.bool true)) W:=by
 have h1:aK (setBlock V mb (cB (aF kv (.agg (byC b).toArray) (.bool true)))) mb (aF kv (.agg (byC b).toArray) (.bool true)):=aK.set h.mp.lt _;have h2:=Below.setB h.bl h.le (cB (aF kv (.agg (byC b).toArray) (.bool true)));refine⟨h2.trans (hb.mono h2.size),h1.below hb h1.lt,fun p hp=>?_,h.le⟩;rcases upd_in hp with hp|rfl
 ·exact h.ok p hp
 ·exact⟨b,hl,rfl,hf⟩
def AM{W V}{mb k:Nat}{v}{L:List (List Value)}{kv:List (Value×Value)}(h:RowC W k v L)(hm:aK W mb kv)(hg:W.grownBy V (some mb)):RowC V k v L:=by
 obtain⟨A,cap,rfl,ab,h⟩:=h;refine⟨A,cap,rfl,ab,fun i cs hi=>?_⟩;obtain⟨b,off,rfl,hl,hc⟩:=h i cs hi;refine⟨b,off,rfl,Nf hl hg.size,fun j x hx=>hg.cell (hc j x hx) (fun e=>?_)⟩;have:=hc j x hx;simp only[Option.some.injEq]at e;subst e;unfold aK cB at hm;simp[World.cell?,hm]at this
def Lm(w:World)(s:SrcR)(e:Ending)(w':World):Prop:=eB w w'/\∃(p d cv:Value)(x:Bool) (k:Int),e=.returned (.tuple #[p,d,cv,.bool x,.int .i64 k])/\(k=0/\x=false<->TypesOk s/\bB s=true/\jN s)
def Ln(k:Nat)(w):Calls prog 195 #[.slice none 0 k] w fun e w'=>eB w w'/\∃v,e=.returned v:=by
 have hq:∀W,(binOp .eql 32 (.slice none 0 k) (.slice none 0 0)).run prog W=.ok (.bool true) W:=fun _=>by kernel_rfl
 go_enter func195,ntmps195;go_wp2;go_ret;exact⟨NB _ _,_,rfl⟩
def Lo(s)(w)(hS:ap w s)(hT:Tab w):Calls prog 127 #[.agg (srcC s).toArray] w (Lm w s):=by
 have fs:(srcC s).toArray.size=8:=rfl;have fq:∀W,(Instr.makeMap 315 none).run prog W=.ok (.map (some W.heap.size)) (W.alloc (.map #[] 0)):=fun _=>rfl;have ex:=MY (fun W (hW:eB w W)=>nJ s W (hS.below hW) (hT.below hW));have eo:Hid (∀W (_:eB w W),Calls prog 205 #[.agg (srcC s).toArray] W (AL W s)):=fun W hW=>Lh s W (hS.below hW);have er:=MY (fun(ht:TypesOk s)(p:Int) W (hW:eB w W)=>JO s p W (hS.below hW) ht);have ev:=MY (fun(ht:TypesOk s)(p d:Int) (cv:Value) (c:List Int) W (hW:eB w W) (hc:RowC W 1 cv (c.map af)) (hl:c.length=s.opts.length)=>Jb s p d cv c W (hS.below hW) ht hc hl);have cb:=MY (fun(ht:TypesOk s)(p d:Int) (c:List Int) W (hW:eB w W)=>IX s (byR s p d c).1 W (hS.below hW) ht (hT.below hW) (zD _ _ _ _) (IZ _ _ _ _));have ew:Hid (∀(_:TypesOk s)(b:List Int) (a:List (List Rt)) (av:Value) (M:List bQ) W,eB w W->matR s b=some a->M.map (·.l)=a->gj W av M->Calls prog 209 #[av] W (AB W (jI a))):=fun ht b a av M W hW hm hM hV=>by
  have h1:=Lj ht hm;have h3:s.items.length<=32:=by
   have:=ht.2.1;unfold dG at this;simp only[Ob,decide_eq_true_eq]at this;omega
  subst hM;exact KP hV h3 (by rw[<-h1.1,N6]) (fun r hr=>h1.2 r.l (List.mem_map_of_mem hr)) (hT.below hW)
 obtain⟨Ap,cp,ep⟩:=hS.plants.len;rw[N6]at ep;have dn:=MY hS.ol;unfold BIG at dn;have ei:=hS.pl;unfold BIG at ei;obtain⟨np,cu⟩:=nm s.plants.length;rw[cu]at ep ei;have bg:=MY cu;obtain⟨N,hN⟩:=nm w.heap.size;have fb:=MY hN;obtain⟨W1,cf⟩:=nm (w.alloc (.cells (srcC s).toArray 31));have K1:=Blk.new w (srcC s) 31;rw[hN,cf]at K1;have K1:=MY K1;have B1:Hid (eB w W1):=by rw[<-cf];exact ak _ _
 have eu:Hid (∀V,Blk V N (srcC s) 31->V.cell? ⟨N,2,none⟩=some (.slice Ap np cp)):=fun V h=>by rw[<-ep];exact(h.at 2 _ rfl).1
 clear hS hT cu ep;go_enter func127,ntmps127;go_wp2_with fail;clear cf hN;refine wp_scope_straight ?_;go_wp2_with (refine wR 31 (ai K1.out) ?_);refine(ex.out _ B1.out).mono ?_;rintro e w2 ⟨ci,k,rfl,hk⟩;have HK:=MY hk;have B2:=MY (B1.trans (ci.mono B1.size));have K2:=MY (K1.below ci K1.lt);clear ci B1 K1 hk;by_cases ab:k=0
 case neg=>
  have t1:decide (¬k=0)=true:=by simpa using ab
  go_wp2_with fail;rw[NE];refine bodyPost_ret (v:= .tuple #[.int .i64 0,.int .i64 0,.slice none 0 0,.bool false,.int .i64 k]) (by simp[results,results127,go_sem]) rfl ?_;exact⟨B2.out,_,_,_,_,_,rfl,⟨fun h=>absurd h.1 ab,fun h=>absurd (HK.2 h.1) ab⟩⟩
 subst ab;have bh:Hid (TypesOk s):=HK.1 rfl;clear HK;go_wp2_with (refine wR 31 (ai K2.out) ?_);refine(eo.out _ B2.out).mono ?_;rintro e w3 ⟨cl,bm⟩;have B3:=MY (B2.trans (cl.mono B2.size));have K3:=MY (K2.below cl K2.lt);clear cl B2 K2;rcases bm with⟨ho,rfl⟩|⟨ho,vC,xs,rfl,el,eY,ee⟩
 ·have ao:=MY ho;clear ho;go_wp2_with fail;rw[NE];refine bodyPost_ret (v:= .tuple #[.int .i64 0,.int .i64 0,.slice none 0 0,.bool false,.int .i64 130]) (by simp[results,results127,go_sem]) rfl ?_;exact⟨B3.out,_,_,_,_,_,rfl,⟨fun h=>absurd h.1 (by decide),fun h=>by have:=h.2.1;rw[ao.out]at this;cases this⟩⟩
 have cc:=MY ho;obtain⟨AC,cC,eC,_,al⟩:=eY;rw[N6]at eC;subst eC;have R3:=MY al;have C3:=MY ee;have cd:=MY el;obtain⟨nC,bt⟩:=nm xs.length;have dk:=MY bt;have fo:nC<=4096:=by
  have h1:=yq s;have h2:=tc cc.out;have h3:=congrArg List.length cd.out;rw[N6,bt]at h3;omega
 rw[bt];have ad:=MY B3.size;obtain⟨W4,eb⟩:=nm (w3.alloc (.map #[] 0));obtain⟨mb,eg⟩:=nm w3.heap.size;have S4:Hid (dZ s mb w3 [] W4):=by
  rw[<-eb];exact⟨(NB _ _).alloc (No _) _,by rw[<-eg];exact aK.new w3,fun p hp=>by simp at hp,by omega⟩
 have q2:=eu.out W4 (K3.below (S4.bl.mono (No _)) K3.lt);have ql:N<W4.heap.size:=Nf K3.lt S4.bl.size;clear ho ee el bt al;go_wp2_with fail;refine wp_label ?_;go_wp2_with fail;clear eb eg q2 ql;go_loopw [2,3,4,5,6,31] (fun _ _ _ o e z W=>∃(k:Nat) (kv:List (Value×Value)),k<=np/\o=.bool false/\e=.int .i64 0/\z=.int .i64 k/\Hid (dZ s mb w3 kv W)/\Hid (∀p,p<k->∀d,kK s (p:Nat) d->oy s (p:Nat) d)) (fun _ _ _ _ _ z _=>np-(intOf z).toNat)
 case atStart=>exact⟨0,[],Nu _,rfl,rfl,rfl,S4.out,(by show ∀p,p<0->_;intro p h;omega)⟩
 case round=>
  obtain⟨k,kv,fl,rfl,rfl,rfl,S,HD⟩:=hrel;clear S4;by_cases eR:k<np
  case neg=>
   obtain rfl:np=k:=by omega
   have BE:=MY (B3.trans (S.bl.mono ad.out));go_wp2_with fail;rw[NE];refine bodyPost_ret (v:= .tuple #[.int .i64 0,.int .i64 0,.slice none 0 0,.bool false,.int .i64 0]) (by simp[results,results127,go_sem]) rfl ?_;exact⟨BE.out,_,_,_,_,_,rfl,⟨fun _=>⟨bh.out,cc.out,fun p hp=>HD.out p (by rw[bg.out]at hp;exact hp)⟩,fun _=>⟨rfl,rfl⟩⟩⟩
  have K5:=MY (K3.below S.bl K3.lt);have B5:=MY (B3.trans (S.bl.mono ad.out));go_wp2_with (refine wR 31 (ai K5.out) ?_);refine(er.out bh.out k _ B5.out).mono ?_;rintro e w5 ⟨ec,vD,D,rfl,cw,eP,ds⟩;have S5:=MY (S.below ec);obtain⟨AD,cD,eD⟩:=cw.len;rw[N6]at eD;subst eD;have RD:=MY cw;have db:=MY ds;obtain⟨nD,cr⟩:=nm D.length;have dl:=MY cr;rw[cr]at eP RD⊢;clear ec cw ds cr K5 B5 S;go_wp2_with fail;go_loopw [2,3,4,5,6,38] (fun pv _ _ o e z W=>∃(j:Nat) (kv:List (Value×Value)),j<=nD/\pv=.int .i64 k/\o=.bool false/\e=.int .i64 0/\z=.int .i64 j/\Hid (dZ s mb w3 kv W)/\Hid (w5.grownBy W (some mb))/\Hid (∀d∈D.take j,oy s k d)) (fun _ _ _ _ _ z _=>nD-(intOf z).toNat)
  case atStart=>exact⟨0,kv,Nu _,rfl,rfl,rfl,rfl,S5.out,World.grownBy.refl _ _,(by show ∀q∈List.take 0 D,_;simp)⟩
  case round=>
   rename World=>V0;obtain⟨j,kv,fi,rfl,rfl,rfl,rfl,S,G,HJ⟩:=hrel;by_cases eS:j<nD
   case neg=>
    obtain rfl:nD=j:=by omega
    have et:Hid (∀p,p<k+1->∀d,kK s (p:Nat) d->oy s (p:Nat) d):=fun p hp d hd=>by
     by_cases eV:p=k
     ·subst eV;have h1:=HJ.out d;rw[Ny (by rw[dl.out];exact No _)]at h1;exact h1 ((db.out d).2 hd)
     ·exact HD.out p (by omega) d hd
    go_wp2_with fail;refine⟨⟨k+1,kv,by omega,rfl,rfl,by go_num,S.out,et.out⟩,?_⟩;simp[intOf];omega
   obtain⟨d,hd⟩:=gx (l:=D) (i:=j) (by have:=dl.out;omega);obtain⟨_,_,e1,_,bo⟩:=AM RD.out S5.mp G.out;obtain⟨b1,o1,rfl,cm,ed⟩:=bo j (af d) (by rw[Ou,hd];rfl);replace e1:=(Value.slice.inj e1).1;subst e1;have qd:=ed 0 _ rfl;simp only[Na,Ov]at qd;have cR:=MY hd;obtain⟨fc,fe⟩:=ix (k:=j) (n:=nD);clear hd bo ed;go_wp2_with fail;clear qd cm;go_loopw [2,3,4,5,6,44] (fun pv dv _ o e z W=>∃(m:Nat) (kv:List (Value×Value)),m<=nC/\pv=.int .i64 k/\dv=.int .i64 d/\o=.bool false/\e=.int .i64 0/\z=.int .i64 m/\Hid (dZ s mb w3 kv W)/\Hid (w5.grownBy W (some mb))/\Hid (∀x∈xs.take m,ox s k d x.c)) (fun _ _ _ _ _ z _=>nC-(intOf z).toNat)
   case atStart=>exact⟨0,kv,Nu _,rfl,rfl,rfl,rfl,rfl,S.out,G.out,(by show ∀q∈List.take 0 xs,_;simp)⟩
   case round=>
    clear S G;rename World=>V1;obtain⟨m,kv,fr,rfl,rfl,rfl,rfl,rfl,S,G,HM⟩:=hrel;by_cases eU:m<nC
    case neg=>
     obtain rfl:nC=m:=by omega
     have es:Hid (oy s k d):=fun c hc=>by
      rw[<-cd.out]at hc;obtain⟨x,hx,rfl⟩:=OE.1 hc;have h1:=HM.out x;rw[Ny (by rw[dk.out];exact No _)]at h1;exact h1 hx
     go_wp2_with fail;refine⟨⟨j+1,kv,by omega,rfl,rfl,rfl,by go_num,S.out,G.out,kO HJ.out cR.out es.out⟩,?_⟩;simp[intOf];omega
    obtain⟨x,hx⟩:=gx (l:=xs) (i:=m) (by have:=dk.out;omega);have cx:=Oc hx;obtain⟨b2,o2,rfl,ar,hc2⟩:=R3.out m [x.v] (by rw[Ou,hx];rfl);have co:x.c∈fd s:=by rw[<-cd.out];exact List.mem_map_of_mem cx
    have bu:=(pT cc.out x.c).1 co;have cq:x.c.length=s.opts.length:=(iY.1 (by unfold cI at bu;simp only[Ob]at bu;exact bu.2.1)).1;have CX:=MY ((C3.out x cx).below S.bl);have B9:=MY (B3.trans (S.bl.mono ad.out));have K9:=MY (K3.below S.bl K3.lt);have ax:=MY (ev.out bh.out k d x.v x.c V1 B9.out CX.out cq);have qx:V1.cell? ⟨b2,o2+m,none⟩=some x.v:=by
     have:=(S.bl.cell (p:=⟨b2,_,none⟩) ar).trans (hc2 0 _ rfl);simp only[Na,Ov]at this;exact this
    have cn:=Nf ar S.bl.size;obtain⟨hm0,hm1⟩:=ix (k:=m) (n:=nC);obtain⟨p,bc⟩:=nm (byR s k d x.c);obtain⟨b,bk⟩:=p;have be:Hid (b.length=32):=by have:=zD s k d x.c;rw[bc]at this;exact this
    have an:Hid ((byC b).length=32):=by show _=_;rw[qI];exact be.out
    have di:Hid (∀W (_:eB w W),Calls prog 208 #[.agg (srcC s).toArray,.agg (byC b).toArray] W (ze W (matR s b))):=fun W hW=>by have:=cb.out bh.out k d x.c W hW;rw[bc]at this;exact this
    have br:Hid ((bk=true->gq s b=true)->ox s k d x.c):=fun h=>by unfold ox;rw[bc];exact h
    have bx:Hid (jN s->bk=true->gq s b=true):=fun h=>by
     have:=h k (by rw[bg.out];exact eR) d ((db.out d).1 (Oc cR.out)) x.c co;unfold ox at this;rw[bc]at this;exact this
    unfold zF at ax;rw[bc]at ax;have ez:Hid (x.c.length<=1048576):=by show _<=_;rw[cq];have:=dn.out;omega
    have HX:=MY hx;obtain⟨xa,xn,xk,xc⟩:=x;unfold CfR.v at CX ax qx;dsimp only at CX ax qx br;clear hc2 ar hx cx co bu cq bc;go_wp2_with (refine wR 31 (ai K9.out) ?_);refine ax.mono ?_;rintro e w6 ⟨rfl,aA⟩;have S6:=S.below aA;have G6:=aY G.out (du aA _);have K6:=K9.below aA K9.lt;have B6:=B9.trans (aA.mono B9.size);have C6:=CX.below aA;obtain⟨xb,bd⟩:=nm w6.heap.size;obtain⟨W7,ch⟩:=nm (w6.alloc (.cells (byC b).toArray 317));have X7:=Blk.new w6 (byC b) 317;have ba:eB w6 W7:=by rw[<-ch];exact ak _ _
    rw[bd,ch]at X7;have X7:=MY X7;have S7:=MY (S6.below ba);have G7:=MY (aY G6 (du ba _));have K7:=MY (K6.below ba K6.lt);have B7:=MY (B6.trans (ba.mono B6.size));have C7:=MY (C6.below ba);have cb:Hid (mb<xb):=by show _<_;rw[<-bd];exact S6.mp.lt
    clear aA ba S6 G6 K6 B6 C6 ax qx cn CX B9 K9 S G
    cases bk with
    |false=>
     go_wp2_with (refine wB bd (qJ b) ?_ (hn:=an.out) (cs:=(byC b)))
     refine⟨⟨m+1,kv,by omega,rfl,rfl,rfl,rfl,by go_num,S7.out,G7.out,kO HM.out HX.out (br.out (fun h=>by cases h))⟩,?_⟩
     simp[intOf];omega
    |true=>
     obtain⟨gv,bs⟩:=nm (aD kv (.agg (byC b).toArray))
     have dd:=MY bs
     cases gv with
     |some v=>
      obtain⟨rfl,hf⟩:=S7.hit bs
      have HF:=MY hf
      clear bs hf
      go_wp2_with (first|(refine wB bd (qJ b) ?_ (hn:=an.out) (cs:=(byC b)))|(refine wG 317 (ai X7.out) ?_ (hn:=an.out))|(refine zT ur underlying315 rfl (.tmp 59) (.tmp 60) false rfl mb (.agg (byC b).toArray) rfl rfl kv S7.mp S7.key ⟨b,be.out,rfl⟩ (z:= .bool false) (fun _=>rfl) (.bool true) (by rw[dd.out];rfl) ?_))
      refine⟨⟨m+1,kv,by omega,rfl,rfl,rfl,rfl,by go_num,S7.out,G7.out,kO HM.out HX.out (br.out (fun _=>HF.out))⟩,?_⟩
      simp[intOf];omega
     |none=>
      obtain⟨kw,fn⟩:=nm (aF kv (.agg (byC b).toArray) (.bool true))
      obtain⟨W8,ag⟩:=nm (setBlock W7 mb (cB (aF kv (.agg (byC b).toArray) (.bool true))))
      have S8:Hid (∀W,gq s b=true->eB W8 W->dZ s mb w3 (aF kv (.agg (byC b).toArray) (.bool true)) W):=fun W hf hW=>by rw[<-ag]at hW;exact S7.put be.out hf hW
      have X8:Hid (Blk W8 xb (byC b) 317):=by rw[<-ag];exact X7.grown (lY _ _ _) (fun e=>by cases e;have:=cb.out;omega)
      have K8:Hid (Blk W8 N (srcC s) 31):=by rw[<-ag];exact K7.grown (lY _ _ _) (fun e=>by cases e;have h1:=S7.le;have h2:=K3.lt;omega)
      have B8:Hid (eB w W8):=by rw[<-ag];exact Below.setB B7.out (Nv ad.out S7.le) _
      have G8:Hid (w5.grownBy W8 (some mb)):=by rw[<-ag];exact aY G7.out (lY _ _ _)
      have C8:Hid (RowC W8 1 (.slice xa xn xk) (xc.map af)):=by rw[<-ag];exact AM C7.out S7.mp (lY _ _ _)
      clear bs
      go_wp2_with (first|(refine wB bd (qJ b) ?_ (hn:=an.out) (cs:=(byC b)))|(refine wG 317 (ai X7.out) ?_ (hn:=an.out))|(refine zT ur underlying315 rfl (.tmp 59) (.tmp 60) false rfl mb (.agg (byC b).toArray) rfl rfl kv S7.mp S7.key ⟨b,be.out,rfl⟩ (z:= .bool false) (fun _=>rfl) (.bool false) (by rw[dd.out];rfl) ?_)|(refine wR 317 (ai X7.out) ?_ (hn:=an.out))|(refine tS ur underlying315 rfl (.tmp 63) (.tmp 64) (.const (.bool true)) (.inl rfl) mb (.agg (byC b).toArray) (.bool true) rfl rfl rfl kv S7.mp S7.key ⟨b,be.out,rfl⟩ ?_;rw[ag])|(refine wR 31 (ai K8.out) ?_)|(refine wR 317 (ai X8.out) ?_ (hn:=an.out)))
      refine(di.out W8 B8.out).mono ?_
      rintro e w9 ⟨bb,av,k9,rfl,ef,ea⟩
      have B9:=MY (B8.trans (bb.mono B8.size))
      have G9:=MY (aY G8.out (du bb _))
      have C9:=MY (C8.below bb)
      have S9:Hid (gq s b=true->∀W,eB w9 W->dZ s mb w3 (aF kv (.agg (byC b).toArray) (.bool true)) W):=fun hf W hW=>S8.out W hf (bb.trans (hW.mono bb.size))
      have ca:=MY ef
      have df:=MY ea
      clear bb ef ea ag ch bd X7 S7 G7 K7 B7 C7 X8 K8 B8 G8 C8 S8 di
      by_cases ab:k9=0
      case neg=>
       have t1:decide (¬k9=0)=true:=by simpa using ab
       have t2:(k9==0)=false:=by simpa using ab
       have ao:Hid (¬jN s):=fun h=>by
        have h1:=bx.out h (by first|rfl|trivial);unfold gq at h1
        cases hq:matR s b with
        |none=>rw[hq]at h1;cases h1
        |some a=>exact ab (ca.2 (by rw[hq];rfl))
       go_wp2_with fail
       rw[NE]
       refine bodyPost_ret (v:= .tuple #[.int .i64 0,.int .i64 0,.slice none 0 0,.bool false,.int .i64 k9]) (by simp[results,results127,go_sem]) rfl ?_
       exact⟨B9.out,_,_,_,_,_,rfl,⟨fun h=>absurd h.1 ab,fun h=>absurd h.2.2 ao.out⟩⟩
      subst ab
      obtain⟨a,ha⟩:∃a,matR s b=some a:=Option.isSome_iff_exists.1 (ca.1 rfl)
      obtain⟨M,dy,dT⟩:=df.out a ha
      have dr:=MY (ew.out bh.out b a av M w9 B9.out ha dy dT)
      have bw:Hid (gq s b=jI a):=by show _=_;unfold gq;rw[ha]
      clear dy dT ha df ca
      go_wp2_with fail
      refine dr.mono ?_
      rintro e bp ⟨ac,y,cz,rfl,bn⟩
      have bv:=MY (B9.trans (ac.mono B9.size))
      have en:=MY (aY G9.out (du ac _))
      have cN:=MY (C9.below ac)
      have eA:=MY (fun hf=>S9.out hf bp ac)
      have HI:=MY bn
      clear ac bn dr B9 G9 C9 S9
      by_cases ab:cz=0
      case neg=>
       have t1:decide (¬cz=0)=true:=by simpa using ab
       have ao:Hid (¬jN s):=fun h=>ab (HI.2 (by rw[<-bw.out];exact bx.out h (by first|rfl|trivial))).2
       go_wp2_with fail
       rw[NE]
       refine bodyPost_ret (v:= .tuple #[.int .i64 0,.int .i64 0,.slice none 0 0,.bool false,.int .i64 cz]) (by simp[results,results127,go_sem]) rfl ?_
       exact⟨bv.out,_,_,_,_,_,rfl,⟨fun h=>absurd h.1 ab,fun h=>absurd h.2.2 ao.out⟩⟩
      subst ab
      cases y with
      |true=>
       have HF:Hid (gq s b=true):=by show _=_;rw[bw.out];exact HI.1 ⟨rfl,rfl⟩
       go_wp2_with fail
       refine⟨⟨m+1,_,by omega,rfl,rfl,rfl,rfl,by go_num,eA.out HF.out,en.out,kO HM.out HX.out (br.out (fun _=>HF.out))⟩,?_⟩
       simp[intOf];omega
      |false=>
       have ao:Hid (¬jN s):=fun h=>by cases (HI.2 (by rw[<-bw.out];exact bx.out h (by first|rfl|trivial))).1
       have cP:Hid (Calls prog 195 #[.slice xa xn xk] bp fun e w'=>eB bp w'/\∃v,e=.returned v):=by
        cases xa with
        |none=>
         obtain⟨A,c,e,_,h⟩:=cN.out
         cases xc with
         |nil=>injection e with _ e2 _;rw[List.map_nil,ND]at e2;rw[e2];exact Ln xk bp
         |cons z l=>obtain⟨_,_,e3,_⟩:=h 0 (af z) rfl;rw[e3]at e;injection e with e1;cases e1
        |some p=>exact(yi p xn xk xc bp cN.out ez.out).mono fun e w' h=>⟨h.1,h.2.elim fun v hv=>⟨v,hv.1⟩⟩
       go_wp2_with fail
       refine cP.mono ?_
       rintro e fv ⟨bi,cv,rfl⟩
       have em:=MY (bv.trans (bi.mono bv.size))
       clear bi cP
       go_wp2_with fail
       rw[NE]
       refine bodyPost_ret (v:= .tuple #[.int .i64 k,.int .i64 d,cv,.bool true,.int .i64 0]) (by simp[results,results127,go_sem]) rfl ?_
       exact⟨em.out,_,_,_,_,_,rfl,⟨fun h=>(by cases h.2),fun h=>absurd h.2.2 ao.out⟩⟩
end
def LX(s)(w)(hS:ap w s)(ht:TypesOk s)(ao:bB s=true)(hT:Tab w):Calls prog 74 #[.agg (srcC s).toArray] w (gG w (mD s/\jN s)):=by
 have aA:(srcC s).toArray.size=8:=rfl;have ax:=MY (fun W (hW:eB w W)=>Bg s W (hS.below hW) ht (hT.below hW));have av:=MY (fun W (hW:eB w W)=>Lo s W (hS.below hW) (hT.below hW));have al:=MY (And.intro ht ao);obtain⟨N,hN⟩:=nm w.heap.size;obtain⟨W1,ac⟩:=nm (w.alloc (.cells (srcC s).toArray 31));have K1:=Blk.new w (srcC s) 31;rw[hN,ac]at K1;have K1:=MY K1;have B1:Hid (eB w W1):=by rw[<-ac];exact ak _ _
 clear hS hT ht ao;go_enter func74,ntmps74;go_wp2_with (refine wR 31 (ai K1.out) ?_);refine(ax.out _ B1.out).mono ?_;rintro e w2 ⟨ad,v,k,rfl,hk,_⟩;have HK:=MY hk;have B2:=MY (B1.trans (ad.mono B1.size));have K2:=MY (K1.below ad K1.lt);clear ad B1 K1 hk ac hN;by_cases ab:k=0
 case neg=>
  have t1:decide (¬k=0)=true:=by simpa using ab
  go_wp2;go_ret;exact⟨B2.out,_,rfl,⟨fun h=>absurd h ab,fun h=>absurd (HK.2 h.1) ab⟩⟩
 subst ab;have ar:Hid (mD s):=HK.1 rfl;clear HK;go_wp2_with (refine wR 31 (ai K2.out) ?_);refine(av.out _ B2.out).mono ?_;rintro e w3 ⟨an,p,d,cv,x,k,rfl,hk⟩;have HK:=MY hk;have B3:=MY (B2.trans (an.mono B2.size));clear an B2 K2 hk;have ag:Hid (¬(k=0/\x=false)->¬jN s):=fun h1 h2=>h1 (HK.2 ⟨al.1,al.2,h2⟩);by_cases ab:k=0
 case neg=>
  have t1:decide (¬k=0)=true:=by simpa using ab
  go_wp2;go_ret;exact⟨B3.out,_,rfl,⟨fun h=>absurd h ab,fun h=>absurd h.2 (ag.out fun e=>ab e.1)⟩⟩
 subst ab
 cases x with
 |true=>
  go_wp2
  go_ret
  exact⟨B3.out,_,rfl,⟨fun h=>(by cases h),fun h=>absurd h.2 (ag.out fun e=>(by cases e.2))⟩⟩
 |false=>
  go_wp2
  go_ret
  exact⟨B3.out,_,rfl,⟨fun _=>⟨ar.out,(HK.1 ⟨by first|rfl|trivial,by first|rfl|trivial⟩).2.2⟩,fun _=>rfl⟩⟩
def dJ.keep{w W}{b:Nat}{M}{row:Option Nat}(h:dJ w b M)(hg:w.grownBy W row)(hr:∀r,row=some r->∃cs t fr,w.heap[r]? = some (.cells cs t fr)):dJ W b M:=by
 obtain⟨kv,h1,h2⟩:=h;refine⟨kv,(hg.block b h1.lt (fun e=>?_)).trans h1,h2⟩;obtain⟨cs,t,fr,hc⟩:=hr b e.symm;have:w.heap[b]? = some (cB kv):=h1;rw[hc]at this
 cases this
def Bk(s)(us:List aC):iA s us=(iA s s.units).map fun d=>{d with units:=us}:=by
 unfold iA
 cases mapO (kD s) s.items with
 |none=>rfl
 |some a=>
 cases mapO (kE s) s.machs with
 |none=>rfl
 |some b=>
 simp only[Option.bind_some]
 cases mapO (fun f:ForbR=>mapO (fh s) f.conds) s.forbs with
 |none=>rfl
 |some c=>
 cases mapO (iz s) s.recs with
 |none=>rfl
 |some d=>
 cases mapO (kF s) s.swaps with
 |none=>rfl
 |some e=>rfl
abbrev aH:Value:= .slice none 0 0
def gz:List Value:=[aH,aH,aH,aH,aH,aH,aH,aH]
def fV:SrcR:=⟨aH,aH,aH,aH,aH,aH,aH,aH,[],[],[],[],[],[],[],[]⟩
def Mi(w):ap w fV:=
 ⟨RowC.nil _ _ _ _,RowC.nil _ _ _ _,RowC.nil _ _ _ _,RowC.nil _ _ _ _,RowC.nil _ _ _ _,RowC.nil _ _ _ _,RowC.nil _ _ _ _,RowC.nil _ _ _ _,fun o h=>by simp[fV]at h,fun o h=>by simp[fV]at h,fun o h=>by simp[fV]at h,by simp[fV],by simp[fV],by simp[fV],by simp[fV],by simp[fV],by simp[fV],by simp[fV],by simp[fV]⟩
def Mj(bx be:Nat)(w) :CallsD prog 118 #[.pointer bx,.pointer be] .returning w fun e u' w'=>e=.returned (.tuple #[])/\u'=.returning/\w'=w:=by
 refine callsD_of_wpS func118 rfl fun c₀ cs hu=>?_;apply wpS_seq;apply wpS_region;simp[wpOpsS,go_sem,recoverD,hu,ntmps118,Exit.thenS];refine wpS_of_wp ?_;simp only[NZ,N0,N1,N2,M9,MZ,NY,OB,OC];go_wp2
 cases c₀;simp_all [bodyPostS,results,results118]
def Mk(bx be D:Nat)(C)(v0)(w)(hx:Blk w bx C 31)(hC:C.length=8)(he:Blk w be [v0] 41)(hD:D<=bx)(ad:D<=be) :CallsD prog 118 #[.pointer bx,.pointer be] (.panicking kH) w fun e u' w'=>e=.returned (.tuple #[])/\u'=.panicking [{v:= .iface 337 (.agg #[]),recovered:=true}]/\Blk w' bx gz 31/\Blk w' be [.int .i64 110] 41/\Below D w w':=by
 refine callsD_of_wpS func118 rfl fun c₀ cs hu=>?_;unfold kH at hu;apply wpS_seq;apply wpS_region;simp[wpOpsS,go_sem,recoverD,hu,ntmps118,Exit.thenS];refine wpS_of_wp ?_;simp only[NZ,N0,N1,N2,M9,MZ,NY,OB,OC];have ab:be≠bx:=(he.ne hx (by decide))
 have HB:=MY (NB D w);have ag:=hx.lt;go_wp2_with (refine eT 31 8 (by kernel_rfl) rfl (.tmp 0) (.tmp 6) rfl rfl bx rfl gz rfl C 31 hx hC rfl rfl (fun w1 h1 hg=>?_);have e1:=he.grown hg (fun e=>ab (Option.some.inj e));have ac:=MY (HB.grown hg (by omega) (fun k e=>by cases e;exact hD));have H1:=MY h1;have E1:=MY e1;obtain⟨q,f⟩:=e1.at 0 _ rfl;clear hg h1 e1);simp[bodyPostS,results,results118];exact⟨H1.other ab.symm _,E1.set 0 _,ac.setCell (p:=⟨be,0,none⟩) ad _⟩
def rg(bx be:Nat)(W)(tmps:Array Value)(k:Int)(a1 a2 a3 a4 a5 a6 a7 a8)(h2:tmps.getD 2 undef=.pointer bx)(h3:tmps.getD 3 undef=.pointer be)(K:Blk W bx [a1,a2,a3,a4,a5,a6,a7,a8] 31)(E:Blk W be [.int .i64 k] 41) :(results Tryz.f70 tmps).run prog W=.ok (.tuple #[.agg #[a1,a2,a3,a4,a5,a6,a7,a8],.int .i64 k]) W:=by
 rw[Ow]at h2 h3;obtain⟨r0,r1,r2,r3,r4,r5,r6,r7⟩:=pa K;have re:=(E.at 0 _ rfl).1;simp[results,results70,go_sem,h2,h3,r0,r1,r2,r3,r4,r5,r6,r7,re]
structure RBx(w:World)(h:Nat)(s:SrcR)(C:List Value)(k:Int)(W:World):Prop where
 bl:eB w W
 sb:Blk W h (srcC s) 31
 xb:Blk W (h+1) C 31
 eb:Blk W (h+1+1) [.int .i64 k] 41
def RBx.below{w W W'}{h:Nat}{s}{C}{k:Int}(H:RBx w h s C k W)(hb:eB W W'):RBx w h s C k W':=
 ⟨H.bl.trans (hb.mono H.bl.size),H.sb.below hb H.sb.lt,H.xb.below hb H.xb.lt,H.eb.below hb H.eb.lt⟩
def RBx.err{w W}{h:Nat}{s}{C}{k:Int}(H:RBx w h s C k W)(hw:w.heap.size<=h)(k':Int):RBx w h s C k' (W.setCell ⟨h+1+1,0,none⟩ (.int .i64 k')):=
 ⟨H.bl.setCell (p:=⟨h+1+1,0,none⟩) (by show _<=h+1+1;omega) _,H.sb.other (by omega) _,H.xb.other (by omega) _,H.eb.set 0 _⟩
def RBx.res{w W W'}{h:Nat}{s}{C C'}{k:Int}(H:RBx w h s C k W)(hw:w.heap.size<=h)(hx:Blk W' (h+1) C' 31)(hg:W.grownBy W' (some (h+1))):RBx w h s C' k W':=
 ⟨H.bl.grown hg H.bl.size (fun r e=>by cases e;omega),H.sb.grown hg (fun e=>by have:=Option.some.inj e;omega),hx,H.eb.grown hg (fun e=>by have:=Option.some.inj e;omega)⟩
def RBx.cell{w W}{h:Nat}{s}{C}{k:Int}(H:RBx w h s C k W)(hw:w.heap.size<=h)(j:Nat)(v):RBx w h s (C.set j v) k (W.setCell ⟨h+1,j,none⟩ v):=
 ⟨H.bl.setCell (p:=⟨h+1,j,none⟩) (by show _<=h+1;omega) _,H.sb.other (by omega) _,H.xb.set j v,H.eb.other (by omega) _⟩
def uX{s}(h:nY s\/eF s.units=none\/iA s s.units=none):¬iB s:=by
 rintro⟨h1,us,h2,h3⟩;rcases h with h|h|h
 ·exact h1 h
 ·rw[h]at h2;cases h2
 ·rw[Bk,h]at h3;cases h3
def uY{w W}{s}{k:Int}(H:eB w W)(hk:k≠0)(hn:¬iB s):tD w s (iB s) (.returned (.tuple #[.agg gz.toArray,.int .i64 k])) W:=
 ⟨H,fV,k,rfl,Mi W,⟨fun h=>absurd h.1 hk,fun h=>absurd h hn⟩⟩
def Ml{L us:List aC}(h:eF L=some us):us.length<=1048576:=by
 unfold eF at h;split at h
 ·rename_i hl;split at h
  ·cases h
  ·have:∀(l x us:List aC),resAll x l=some us->us.length=x.length+l.length:=by
    intro l;induction l with
    |nil=>intro x us h;simp only[resAll,Option.some.injEq]at h;subst h;simp
    |cons a l ih=>
     intro x us h
     simp only[resAll]at h
     split at h
     ·cases h
     ·have:=ih _ _ h
      simp at this⊢
      omega
   have:=this L [] us h;simp at this;omega
 ·cases h
def dj.put{W}{s}{r:RsR}{B be:Nat}{l}(h:dj W s r)(ho:aa W B 195 1 (.slice r.A r.cms.length r.c) (r.cms.map fun b=>[.map (some b)]))(hb:Blk W be l 41)(v):dj (W.setCell ⟨be,0,none⟩ v) s r:=by
 have hg:=cL (i:=0) (fm W (some be)) v;have hr:∀r,some be=some r->∃cs t fr,W.heap[r]? = some (.cells cs t fr):=fun r e=>by cases e;exact⟨_,_,_,hb⟩
 exact⟨h.u.keep hg hr,h.i.keep hg hr,h.p.keep hg hr,h.m.keep hg hr,h.o.keep hg hr,h.len,(ho.set hb (by decide) v).row,fun k b o h1 h2=>(h.ch k b o h1 h2).keep hg hr⟩
def Mm(s)(w)(hS:ap w s)(hT:Tab w):Calls prog 70 #[.agg (srcC s).toArray] w (tD w s (iB s)):=by
 have ci:=mF;have cm:(srcC s).toArray.size=8:=rfl;have HS:=MY hS;have HT:=MY hT;obtain⟨A0,c0,e0⟩:=hS.units.len;obtain⟨m0,hm0⟩:=nm ((s.units.map aW).length);rw[hm0]at e0;have E0:=MY e0;obtain⟨P,hP⟩:=nm (iB s);have HP:=MY (show P=iB s from hP.symm);rw[hP];obtain⟨ph,hh⟩:=nm w.heap.size;have HH:Hid (w.heap.size<=ph):=Nat.le_of_eq hh;obtain⟨V0,bi⟩:=nm (((w.alloc (.cells (srcC s).toArray 31)).alloc (.cells #[aH,aH,aH,aH,aH,aH,aH,aH] 31)).alloc (.cells #[.int .i64 0] 41));have X0:Hid (RBx w ph s gz 0 V0):=by
  rw[<-bi,<-hh];have e1:=Blk.new (w.alloc (.cells (srcC s).toArray 31)) gz 31;have e2:=Blk.new ((w.alloc (.cells (srcC s).toArray 31)).alloc (.cells gz.toArray 31)) [.int .i64 0] 41;simp only[NU]at e1 e2;exact⟨(((NB w.heap.size w).alloc (No _) _).alloc (by simp) _).alloc (by simp;omega) _,((Blk.new w (srcC s) 31).alloc _).alloc _,e1.alloc _,e2⟩
 have HG:=MY (fun V (hV:eB w V)=>Mh s V (hS.below hV));clear hS hT e0 hm0 hP;go_enter_defers func70,ntmps70;go_wp2_with (refine wR 31 (ai X0.sb) ?_);clear bi;refine(HG.out V0 X0.bl).mono ?_;rintro e w1 ⟨bm,r,tw,rfl,br,hR,hO⟩;have cl:(rsC r).toArray.size=6:=rfl;have X1:=MY (X0.below bm);have bg:=MY br;obtain⟨V2,bk⟩:=nm (w1.alloc (.cells (rsC r).toArray 198));obtain⟨rb,ar⟩:=nm w1.heap.size;have X2:=MY (X1.below (ak w1 (.cells (rsC r).toArray 198)));have K2:=MY (Blk.new w1 (rsC r) 198);have R2:=MY (hR.below (ak w1 (.cells (rsC r).toArray 198)));have O2:=MY (hO.alloc (.cells (rsC r).toArray 198));rw[bk]at X2 K2 R2 O2;rw[ar]at K2;clear bm br hR hO X0 X1 HG
 cases tw with
 |true=>
  have HN:Hid (¬iB s):=uX (.inl (Classical.byContradiction fun h=>by have:=bg.2 h;cases this))
  go_wp2_with (first|(refine wB ar (zx r) ?_)|(refine eT 31 8 (by kernel_rfl) rfl (.tmp 2) (.tmp 13) rfl rfl (ph+1) rfl gz rfl gz 31 X2.xb rfl rfl rfl (fun w3 h3 bn=>?_);have X3:=MY (X2.res HH.out h3 bn);obtain⟨q,f⟩:=X3.eb.at 0 _ rfl;have ch:=X3.eb.lt;clear h3 bn))
  have X4:=X3.err HH.out 111
  rw[HP.out]
  exact⟨_,rg (ph+1) (ph+1+1) _ _ 111 aH aH aH aH aH aH aH aH rfl rfl X4.xb X4.eb,uY X4.bl (by decide) HN.out⟩
 |false=>
 have bt:Hid (¬nY s):=bg.1 (by first|rfl|trivial);have HU:=MY (xG (.slice A0 m0 c0) s.units V2 (by rw[<-E0.out];exact HS.units.below X2.bl) HS.ul (HT.below X2.bl));have q0:V2.cell? ⟨ph,0,none⟩=some (.slice A0 m0 c0):=by have:=(X2.sb.at 0 _ rfl).1;rwa[E0.out]at this
 go_wp2_with (refine wB ar (zx r) ?_);clear q0 ar bk;refine HU.mono ?_;rintro e w3 ⟨al,h3⟩;have X3:=MY (X2.below al);have K3:=MY (K2.below al K2.lt);have R3:=MY (R2.below al);have O3:=MY (O2.below al (No _));obtain⟨q,f⟩:=X3.eb.at 0 _ rfl;have bx:=X3.eb.lt;have bw:Hid (w.heap.size<=V2.heap.size):=X2.bl.size;clear al HU X2 K2 R2 O2
 cases hu:eF s.units with
 |none=>
  rw[hu]at h3
  obtain⟨k,hk,rfl⟩:=h3
  have HN:Hid (¬iB s):=uX (.inr (.inl hu))
  have HK:=MY hk
  have cc:(k != 0)=true:=by simpa using hk
  obtain⟨V4,ac⟩:=nm (w3.setCell ⟨ph+1+1,0,none⟩ (.int .i64 k))
  have X4:Hid (RBx w ph s gz k V4):=by rw[<-ac];exact X3.err HH.out k
  have q4:=(X4.eb.at 0 _ rfl).1
  have f4:=(X4.eb.at 0 _ rfl).2
  have cd:=X4.eb.lt
  have cf:=X4.xb.lt
  obtain⟨p0,g0⟩:=X4.xb.at 0 _ rfl
  obtain⟨p1,g1⟩:=X4.xb.at 1 _ rfl
  obtain⟨p2,g2⟩:=X4.xb.at 2 _ rfl
  obtain⟨p3,g3⟩:=X4.xb.at 3 _ rfl
  obtain⟨p4,g4⟩:=X4.xb.at 4 _ rfl
  obtain⟨p5,g5⟩:=X4.xb.at 5 _ rfl
  obtain⟨p6,g6⟩:=X4.xb.at 6 _ rfl
  obtain⟨p7,g7⟩:=X4.xb.at 7 _ rfl
  clear hu hk
  go_wp2_with fail
  clear ac q f
  refine sA 2 3 (.pointer (ph+1:Nat)) (.pointer (ph+1+1:Nat)) [] (fun c W=>False) ?_ ?_
  ·intro c a w _ _ _ h;exact h.elim
  refine aJ (S:=fun w'=>w'.cell? ⟨ph+1+1,0,none⟩=some (.int .i64 k)) [0,1,1002,1003] q4 (fun ab=>?_) (hQ:=by exact dO.puts (by kernel_rfl))
  repeat refine ay ?_
  refine az fun K hK=>?_
  go_simp
  refine hK.out _ _ ?_ (fun ab=>?_)
  ·(try dsimp only)
   (go_simp <;> exact q4)
  clear hK K
  try simp only[PT]
  refine az fun K hK=>?_
  go_simp
  refine hK.out _ _ ?_ (fun ab=>?_)
  ·(try dsimp only)
   (go_simp <;> exact q4)
  clear hK K
  try simp only[PT]
  refine aj ?_
  refine dO.normal ?_
  have X5:=MY (((((((((X4.cell HH.out 0 aH).cell HH.out 1 aH).cell HH.out 2 aH).cell HH.out 3 aH).cell HH.out 4 aH).cell HH.out 5 aH).cell HH.out 6 aH).cell HH.out 7 aH).err HH.out k)
  go_wp2_with fail
  rw[HP.out]
  exact⟨_,rg (ph+1) (ph+1+1) _ _ k aH aH aH aH aH aH aH aH rfl rfl X5.xb.drew X5.eb.drew,uY X5.bl.drew HK.out HN.out⟩
 |some us=>
 rw[hu]at h3;obtain⟨v,rfl,ad⟩:=h3;obtain⟨AU,nu,cu,ev,_⟩:=gk ad;have ax:=MY hu;have U3:=MY (ad.less bw.out);subst ev;obtain⟨V4,ac⟩:=nm (w3.setCell ⟨ph+1+1,0,none⟩ (.int .i64 0));have X4:Hid (RBx w ph s gz 0 V4):=by rw[<-ac];exact X3.err HH.out 0
 have R4:Hid (dj V4 s r):=by rw[<-ac];exact R3.put O3.out X3.eb _
 have K4:Hid (Blk V4 rb (rsC r) 198):=by rw[<-ac];exact K3.other (K3.ne X3.eb (by decide)) _
 have U4:Hid (aa V4 w.heap.size 103 8 (.slice AU nu cu) (us.map aW)):=by rw[<-ac];exact U3.set X3.eb (by decide) _
 have ag:=MY (L8 s r V4 R4.out (HS.below X4.bl));have q4:=(X4.eb.at 0 _ rfl).1;clear hu ad X3 K3 R3 O3 U3 R4;go_wp2_with (first|(refine wR 198 (ai K4.out) ?_)|(refine wR 31 (ai X4.sb) ?_));clear ac q f q4;refine ag.mono ?_;rintro e w5 ⟨bb,h5⟩;have X5:=MY (X4.below bb);have U5:=MY (U4.below bb (No _));clear bb ag X4 U4 K4
 cases hn:iA s s.units with
 |none=>
  rw[hn]at h5
  simp only at h5
  subst h5
  have HN:Hid (¬iB s):=uX (.inr (.inr hn))
  rw[HP.out]
  refine leaves_cons (f:=118) (args:=#[.pointer (ph+1:Nat),.pointer (ph+1+1:Nat)]) (by simp) (by simp[go_sem]) ?_
  refine(Mk (ph+1) (ph+1+1) w.heap.size gz _ w5 X5.xb rfl X5.eb (by have:=HH.out;omega) (by have:=HH.out;omega)).mono ?_
  rintro e u' w'' ⟨rfl,rfl,hx,he,hb⟩
  exact⟨_,rg (ph+1) (ph+1+1) _ _ 110 aH aH aH aH aH aH aH aH rfl rfl hx he,uY (X5.bl.trans hb) (by decide) HN.out⟩
 |some d=>
 rw[hn]at h5;obtain⟨x,rfl,hd,cb,bd,p,bo,bp,hp,bc⟩:=h5;have be:=MY (fun V (hV:eB w V)=>HS.units.below hV);have bh:=MY (qe (bc w5 hp (be.out w5 X5.bl)));have ca:(srcC x).toArray.size=8:=rfl;obtain⟨x',hx'⟩:∃y:SrcR,y={x with uv:= .slice AU nu cu,units:=us}:=⟨_,rfl⟩
 have aA:Hid (((srcC x').all fun v=>v.oneCell')=true):=by
  show _=true;have:=bh.out;unfold srcC at this;rw[hx'];unfold srcC;simp only[List.all_cons,Ob]at this⊢;exact⟨rfl,this.2⟩
 have P5:=MY hp;have av:=MY bo;have bu:=MY bp;have bv:=MY bc;have HD:=MY hd;have bs:=MY hn;clear hn hd cb bd bo bp hp bc
 go_wp2_with (first|(refine eT 31 8 (by kernel_rfl) rfl (.tmp 2) (.tmp 27) rfl rfl (ph+1) rfl (srcC x) rfl gz 31 X5.xb rfl rfl bh.out (fun w6 h6 an=>?_);have X6:=MY (X5.res HH.out h6 an);have P6:=MY (av.out w5 w6 (some (ph+1)) P5.out an (fun r e=>by cases e;exact⟨_,_,X5.xb⟩));have U6:=MY (aa.stay (T:=31) (by decide) w5 w6 (some (ph+1)) U5.out an (fun r e=>by cases e;exact⟨_,_,X5.xb⟩));obtain⟨q6,f6⟩:=X6.xb.at 0 _ rfl;have l6:=X6.xb.lt;obtain⟨V7,ba⟩:∃V,w6.setCell ⟨ph+1,0,none⟩ (.slice AU nu cu)=V:=⟨_,rfl⟩;have X7:Hid (RBx w ph s (srcC x') 0 V7):=(by rw[<-ba,hx'];exact X6.cell HH.out 0 _);have P7:Hid (p V7):=(by rw[<-ba];exact av.out w6 _ (some (ph+1)) P6.out (cL (fm w6 _) _) (fun r e=>by cases e;exact⟨_,_,X6.xb⟩));have U7:Hid (aa V7 w.heap.size 103 8 (.slice AU nu cu) (us.map aW)):=(by rw[<-ba];exact U6.set X6.xb (by decide) _);clear h6 an)|(refine wR 31 (ai X7.xb) ?_)|(refine eT 31 8 (by kernel_rfl) rfl (.tmp 2) (.tmp 30) rfl rfl (ph+1) rfl (srcC x') rfl (srcC x') 31 X7.xb rfl rfl aA.out (fun w8 h8 ao=>?_);have X8:=MY (X7.res HH.out h8 ao);have P8:=MY (av.out V7 w8 (some (ph+1)) P7.out ao (fun r e=>by cases e;exact⟨_,_,X7.xb⟩));have U8:=MY (aa.stay (T:=31) (by decide) V7 w8 (some (ph+1)) U7.out ao (fun r e=>by cases e;exact⟨_,_,X7.xb⟩));obtain⟨q8,f8⟩:=X8.eb.at 0 _ rfl;have l8:=X8.eb.lt;clear h8 ao));have X9:=X8.err HH.out 0
 have P9:=bu.out w8 _ (some (ph+1+1)) P8.out (cL (i:=0) (fm w8 _) (.int .i64 0)) (fun r e=>by cases e;exact⟨_,_,X8.eb⟩);have U9:=U8.set X8.eb (by decide) (i:=0) (.int .i64 0);have hv:=bv.out _ P9 (be.out _ X9.bl);refine leaves_cons (f:=118) (args:=#[.pointer (ph+1:Nat),.pointer (ph+1+1:Nat)]) (by simp) (by simp[go_sem]) ?_;refine(Mj _ _ _).mono ?_;rintro e u' w'' ⟨rfl,rfl,rfl⟩;refine⟨_,rg (ph+1) (ph+1+1) _ _ 0 _ _ _ _ _ _ _ _ rfl rfl X9.xb X9.eb,X9.bl,x',0,rfl,?_,?_⟩
 ·rw[hx'];exact⟨U9.row,hv.items,hv.plants,hv.machs,hv.opts,hv.forbs,hv.recs,hv.swaps,hv.opt,hv.forb,hv.recv,Ml ax.out,hv.il,hv.pl,hv.ml,hv.ol,hv.fl,hv.rl,hv.sl⟩
 ·rw[HP.out,Ip];have e1:iA s us=some (lX x'):=by rw[Bk,bs.out,hx',<-HD.out];rfl
  constructor
  ·rintro⟨_,h⟩;exact⟨bt.out,us,ax.out,by rw[e1,h]⟩
  ·rintro⟨_,cn,h1,h2⟩;rw[ax.out]at h1
   cases h1;rw[e1]at h2;exact⟨rfl,Option.some.inj h2⟩
def oI(t:cT):Prop:=lQ t (iB t.src) (jP t.src) (mD t.src/\jN t.src) (mD t.src) ((lvS t.src).map fun x:Nat=>(x:Int))
def vf(t:cT)(w)(hV:cW w t)(hm:lM t.src)(hT:Tab w):Calls prog 7 #[.agg (aL t).toArray] w (gG w (oI t)):=
 Ha t w _ _ _ _ _ hV hm hT ⟨fun W hW=>Mm _ W (hV.below hW).src (hT.below hW),fun W hW=>Lg _ W (hV.below hW).src,fun W hW ht=>LS _ W (hV.below hW).src ht (hT.below hW),fun W hW ht ho=>LX _ W (hV.below hW).src ht ho (hT.below hW)⟩ (fun W hW ht _=>Bg _ W (hV.below hW).src ht (hT.below hW))
def Mz(neg:Bool)(n d)(w)(hT:Tab w) :Calls prog 11 #[.agg (aL bP).toArray,.int .i64 0,.int .i64 0,.int .i64 0,.int .i64 0,.agg #[.bool neg,.string n,.string d]] w (fun e w'=>eB w w'/\∃k:Int,k≠0/\e=.returned (.tuple #[.slice none 0 0,.slice none 0 0,.int .i64 0,.int .i64 k])):=by
 have hC:=fun W (hW:eB w W)=>vf bP W (qp W) ⟨by simp[bP,eI],by simp[bP,eI]⟩ (hT.below hW);by_cases hP:oI bP
 case neg=>exact Hb bP 0 0 0 0 neg n d w _ hC hP
 have ag:(aL bP).toArray.size=10:=rfl;have HC:=MY hC;obtain⟨W1,ac⟩:=nm ((w.alloc (.cells (aL bP).toArray 35)).alloc (.cells #[.bool neg,.string n,.string d] 37));have K1:=MY ((Blk.new w (aL bP) 35).alloc (.cells #[.bool neg,.string n,.string d] 37));have B1:=MY (((NB w.heap.size w).alloc (No _) (.cells (aL bP).toArray 35)).alloc (by simp) (.cells #[.bool neg,.string n,.string d] 37));rw[ac]at K1 B1;have HP:=MY hP;clear hC hP hT;go_enter func11,ntmps11;go_wp2_with (refine wR 35 (ai K1.out) ?_);refine(HC.out W1 B1.out).mono ?_;rintro e w2 ⟨ab,k,rfl,hk⟩;have B2:=MY (B1.trans (ab.mono B1.size));have K2:=MY (K1.below ab K1.lt);obtain rfl:k=0:=hk.2 HP.out;have y1:w2.cell? ⟨w.heap.size,1,none⟩=some (.slice none 0 0):=(K2.at 1 _ rfl).1;have yl:=K2.lt;have BT:=MY (btw_con (As:=[.old w2]) (n:=0) (l:=0) (g:= -1) |>.out w2 (Sep.new w2));rw[show btw 0 0 (-1)=false from rfl]at BT;clear ab hk K1 B1 ac;go_wp2_with fail;refine BT.mono ?_;rintro e w3 ⟨rfl,ad⟩;have B3:=MY (B2.trans (ad.mono B2.size));clear ad;go_wp2_with fail;refine bodyPost_ret (v:= .tuple #[.slice none 0 0,.slice none 0 0,.int .i64 0,.int .i64 1]) (by simp[results,results11,go_sem]) rfl ⟨B3.out,1,by decide,rfl⟩
def MB(w w0)(hB:eB w w0)(hT:Tab w0):Calls prog 4 #[] w0 (fun e w'=>e=.returned (.bool true)/\eB w w'):=by
 have bb:=nT;have HR:=MY (fun(n d:Nat) W (hW:Tab W) (hn:n<9223372036854775808) (hd:d<9223372036854775808) (h0:0<d)=>pG n d W hn hd h0 hW);have S:Hid (eB w w0/\Tab w0):=⟨hB,hT⟩
 clear hB hT;go_enter func4,ntmps4;go_wp2_with fail;refine(HR.out 1 1 _ S.2 (by omega) (by omega) (by omega)).mono ?_;rw[show lowR false 1 1=⟨false,1,1⟩ by simp[lowR]];rintro e w1 ⟨rfl,hb⟩;replace S:=keep hb S;clear hb;simp only[bA];obtain⟨w2,av⟩:=nm (w1.alloc (.cells #[.bool false,.string (bs 1),.string (bs 1)] 37));replace S:=de av S (kh [.bool false,.string (bs 1),.string (bs 1)] _ av);obtain⟨w3,ax⟩:=nm (w2.alloc (.cells #[.int .i64 7,.int .i64 0,.int .i64 0,.bool false,.string ⟨#[]⟩,.string ⟨#[]⟩] 72));replace S:=de ax S (OR au 6 (fun _=>rfl) (ck 7) _ ax);go_wp2_with fail;refine(m8 _ S.2.2.2).mono ?_;rintro e w4 ⟨c0,rfl,hv,hb⟩;replace S:=gE hb S (hv);clear hb;clear hv;obtain⟨w5,aA⟩:=nm (w4.alloc (.cells #[.int .i64 2,.int .i64 3] 3));replace S:=de aA S (OR af 1 (fun _=>rfl) [2,3] _ aA);go_wp2_with fail;refine(HR.out 6 1 _ S.2.2.2.2.2 (by omega) (by omega) (by omega)).mono ?_;rw[show lowR false 6 1=⟨false,6,1⟩ by simp[lowR]];rintro e w6 ⟨rfl,hb⟩;replace S:=keep hb S;clear hb;simp only[bA];go_wp2_with fail;refine(jE _ _ bH [2,3] false (bs 6) (bs 1) 20 _ S.2.1 (by simp[bH,ck]) S.1 (by simp) (by omega) S.2.2.2.2.2).mono ?_;rw[Fc];rintro e w7 ⟨hb,hr⟩;replace S:=keep hb S;clear hb;obtain⟨bn,br,rfl,hu,hw⟩:∃uv wv,e=_/\_/\_:=hr.elim (fun h=>h.2) (fun h=>absurd rfl h.1);replace S:=MY (And.intro (hu.row) (And.intro (hw.row) S.out));clear hr hu hw;go_wp2_with fail
 refine(m8 _ S.2.2.2.2.2.2.2).mono ?_;rintro e w8 ⟨c1,rfl,hv,hb⟩;replace S:=gE hb S (hv);clear hb;clear hv;obtain⟨w9,ba⟩:=nm (w8.alloc (.cells #[.int .i64 2,.int .i64 2] 3));replace S:=de ba S (OR af 1 (fun _=>rfl) [2,2] _ ba);go_wp2_with fail;refine(HR.out 6 1 _ S.2.2.2.2.2.2.2.2.2 (by omega) (by omega) (by omega)).mono ?_;rw[show lowR false 6 1=⟨false,6,1⟩ by simp[lowR]];rintro e bv ⟨rfl,hb⟩;replace S:=keep hb S;clear hb;simp only[bA];go_wp2_with fail;refine(jE _ _ bH [2,2] false (bs 6) (bs 1) 20 _ S.2.1 (by simp[bH,ck]) S.1 (by simp) (by omega) S.2.2.2.2.2.2.2.2.2).mono ?_;rw[Fd];rintro e bw ⟨hb,hr⟩;replace S:=keep hb S;clear hb;obtain⟨bo,bt,rfl,hu,hw⟩:∃uv wv,e=_/\_/\_:=hr.elim (fun h=>h.2) (fun h=>absurd rfl h.1);replace S:=MY (And.intro (hu.row) (And.intro (hw.row) S.out));clear hr hu hw;go_wp2_with fail;refine(m8 _ S.2.2.2.2.2.2.2.2.2.2.2).mono ?_;rintro e bc ⟨c2,rfl,hv,hb⟩;replace S:=gE hb S (hv);clear hb;clear hv;obtain⟨bx,ab⟩:=nm (bc.alloc (.cells #[.int .i64 1,.int .i64 9] 3));replace S:=de ab S (OR af 1 (fun _=>rfl) [1,9] _ ab);go_wp2_with fail;refine(HR.out 6 1 _ S.2.2.2.2.2.2.2.2.2.2.2.2.2 (by omega) (by omega) (by omega)).mono ?_;rw[show lowR false 6 1=⟨false,6,1⟩ by simp[lowR]];rintro e ca ⟨rfl,hb⟩;replace S:=keep hb S;clear hb;simp only[bA];go_wp2_with fail
 refine(jE _ _ bH [1,9] false (bs 6) (bs 1) 5 _ S.2.1 (by simp[bH,ck]) S.1 (by simp) (by omega) S.2.2.2.2.2.2.2.2.2.2.2.2.2).mono ?_;rw[Fe];rintro e cb ⟨hb,hr⟩;replace S:=keep hb S;clear hb;obtain⟨bp,bu,rfl,hu,hw⟩:∃uv wv,e=_/\_/\_:=hr.elim (fun h=>h.2) (fun h=>absurd rfl h.1);replace S:=MY (And.intro (hu.row) (And.intro (hw.row) S.out));clear hr hu hw;go_wp2_with fail;refine(m8 _ S.2.2.2.2.2.2.2.2.2.2.2.2.2.2.2).mono ?_;rintro e bd ⟨c3,rfl,hv,hb⟩;replace S:=gE hb S (hv);clear hb;clear hv;obtain⟨cc,ac⟩:=nm (bd.alloc (.cells #[.int .i64 1,.int .i64 9] 3));replace S:=de ac S (OR af 1 (fun _=>rfl) [1,9] _ ac);go_wp2_with fail;refine(HR.out 6 1 _ S.2.2.2.2.2.2.2.2.2.2.2.2.2.2.2.2.2 (by omega) (by omega) (by omega)).mono ?_;rw[show lowR false 6 1=⟨false,6,1⟩ by simp[lowR]];rintro e cd ⟨rfl,hb⟩;replace S:=keep hb S;clear hb;simp only[bA];go_wp2_with fail;refine(jE _ _ bH [1,9] false (bs 6) (bs 1) 4 _ S.2.1 (by simp[bH,ck]) S.1 (by simp) (by omega) S.2.2.2.2.2.2.2.2.2.2.2.2.2.2.2.2.2).mono ?_;rintro e be ⟨hb,hr⟩;replace S:=keep hb S;clear hb;obtain rfl:=hr.elim (fun h=>absurd h.1 (by rw[xh];simp)) (fun h=>h.2);rw[xh];clear hr;obtain⟨cf,ad⟩:=nm (be.alloc (.cells #[.int .i64 0] 3));replace S:=de ad S (OR af 1 (fun _=>rfl) [0] _ ad);obtain⟨q0,q1,q2⟩:=dc S.2.2.2.2.2.2.2.2.2.2.2.2.2.2.2.2.1;have hk:=S.2.2.2.2.2.2.2.2.2.2.2.2.2.2.2.2.1.lt;go_wp2_with fail
 refine(jE _ _ (ck 7) [0] false (bs 1) (bs 1) 1 _ S.2.2.2.2.2.2.2.2.2.2.2.2.2.2.2.1 (by simp[bH,ck]) S.1 (by simp) (by omega) S.2.2.2.2.2.2.2.2.2.2.2.2.2.2.2.2.2.2).mono ?_;rw[Ff];rintro e ch ⟨hb,hr⟩;replace S:=keep hb S;clear hb;obtain⟨ud,vd,rfl,hu,hw⟩:∃uv wv,e=_/\_/\_:=hr.elim (fun h=>h.2) (fun h=>absurd rfl h.1);replace S:=MY (And.intro (hu.row) (And.intro (hw.row) S.out));clear hr hu hw;clear q0 q1 q2 hk;obtain⟨q0,q1,q2⟩:=dc S.2.2.2.2.2.2.2.2.2.2.2.2.2.2.2.2.2.2.1;have hk:=S.2.2.2.2.2.2.2.2.2.2.2.2.2.2.2.2.2.2.1.lt;go_wp2_with fail;refine(jE _ _ (ck 7) [] false (bs 1) (bs 1) 1 _ S.2.2.2.2.2.2.2.2.2.2.2.2.2.2.2.2.2.1 (by simp[bH,ck]) (RowC.nil _ 1 none 0) (by simp) (by omega) S.2.2.2.2.2.2.2.2.2.2.2.2.2.2.2.2.2.2.2.2).mono ?_;rintro e bg ⟨hb,hr⟩;replace S:=keep hb S;clear hb;obtain rfl:=hr.elim (fun h=>absurd h.1 (by rw[xj];simp)) (fun h=>h.2);rw[xj];clear hr;clear q0 q1 q2 hk;obtain⟨bh,ag⟩:=nm (bg.alloc (.cells #[.int .i64 8,.int .i64 0,.int .i64 0,.bool false,.string ⟨#[]⟩,.string ⟨#[]⟩] 72));replace S:=de ag S (OR au 6 (fun _=>rfl) (ck 8) _ ag);obtain⟨ci,al⟩:=nm (bh.alloc (.cells #[.int .i64 0] 3));replace S:=de al S (OR af 1 (fun _=>rfl) [0] _ al);obtain⟨q0,q1,q2⟩:=dc S.2.2.2.2.2.2.2.2.2.2.2.2.2.2.2.2.2.2.2.2.1;have hk:=S.2.2.2.2.2.2.2.2.2.2.2.2.2.2.2.2.2.2.2.2.1.lt;go_wp2_with fail
 refine(jE _ _ (ck 8) [0] false (bs 1) (bs 1) 1 _ S.2.1 (by simp[bH,ck]) S.1 (by simp) (by omega) S.2.2.2.2.2.2.2.2.2.2.2.2.2.2.2.2.2.2.2.2.2.2).mono ?_;rintro e cl ⟨hb,hr⟩;replace S:=keep hb S;clear hb;obtain rfl:=hr.elim (fun h=>absurd h.1 (by rw[xm];simp)) (fun h=>h.2);rw[xm];clear hr;clear q0 q1 q2 hk;obtain⟨q0,q1,q2⟩:=dc S.2.2.2.2.2.2.2.2.2.2.2.2.2.2.2.2.2.2.2.2.1;have hk:=S.2.2.2.2.2.2.2.2.2.2.2.2.2.2.2.2.2.2.2.2.1.lt;go_wp2_with fail;refine(Mz _ _ _ _ S.2.2.2.2.2.2.2.2.2.2.2.2.2.2.2.2.2.2.2.2.2.2).mono ?_;rintro e cm ⟨hb,kz,hz,rfl⟩;replace S:=keep hb S;clear hb;have bm:decide (kz=0)=false:=by simpa using hz
 clear q0 q1 q2 hk;go_wp2_with fail;refine(sB (l:=[]) (RowC.nil _ 6 none 0) (by simp) S.2.2.2.2.2.2.2.2.2.2.2.2.2.2.2.2.2.2.2.2.2.2).mono ?_;rw[Fh];rintro e cn ⟨rfl,hb⟩;replace S:=keep hb S;clear hb;go_wp2_with fail;refine(m8 _ S.2.2.2.2.2.2.2.2.2.2.2.2.2.2.2.2.2.2.2.2.2.2).mono ?_;rintro e co ⟨c9,rfl,hv,hb⟩;replace S:=gE hb S (hv);clear hb;clear hv;go_wp2_with fail;refine(sB S.1 (by simp[bH]) S.2.2.2.2.2.2.2.2.2.2.2.2.2.2.2.2.2.2.2.2.2.2.2).mono ?_;rw[Fg];rintro e cp ⟨rfl,hb⟩;replace S:=keep hb S;clear hb;go_wp2_with fail;refine(HR.out 15 4 _ S.2.2.2.2.2.2.2.2.2.2.2.2.2.2.2.2.2.2.2.2.2.2.2 (by omega) (by omega) (by omega)).mono ?_;rw[show lowR false 15 4=⟨false,15,4⟩ by simp[lowR]];rintro e bi ⟨rfl,hb⟩;replace S:=keep hb S;clear hb;simp only[bA];obtain⟨cq,an⟩:=nm (bi.alloc (.cells #[.int .i64 1,.bool false,.string (bs 15),.string (bs 4),.bool false,.bool true] 65));replace S:=de an S (OR eO 6 (fun _=>rfl) [⟨1,⟨false,15,4⟩,false,true⟩] _ an);go_wp2_with fail;refine(sI _ _ _ _ S.2.2.2.2.2.2.2.2.2.2.2.2.2.2.2.2.2.1 S.1 (by simp)).mono ?_;rintro e bk ⟨rfl,hb⟩;replace S:=keep hb S;clear hb;obtain⟨cr,ao⟩:=nm (bk.alloc (.cells #[.int .i64 1,.int .i64 6] 69));replace S:=de ao S (OR fY 2 (fun _=>rfl) [(1,6)] _ ao);go_wp2_with fail;refine(Fb _ _ _ _ S.2.2.2.2.2.2.2.2.2.2.2.2.2.2.2.2.2.2.2.1 S.1 (by simp)).mono ?_;rintro e cs ⟨rfl,hb⟩;replace S:=keep hb S;clear hb
 go_wp2_with fail;refine(HR.out 42 1 _ S.2.2.2.2.2.2.2.2.2.2.2.2.2.2.2.2.2.2.2.2.2.2.2.2.2 (by omega) (by omega) (by omega)).mono ?_;rw[show lowR false 42 1=⟨false,42,1⟩ by simp[lowR]];rintro e bl ⟨rfl,hb⟩;replace S:=keep hb S;clear hb;simp only[bA];obtain⟨cu,ar⟩:=nm (bl.alloc (.cells #[.int .i64 3,.bool false,.string (bs 42),.string (bs 1),.bool true,.bool false] 65));replace S:=de ar S (OR eO 6 (fun _=>rfl) [⟨3,⟨false,42,1⟩,true,false⟩] _ ar);go_wp2_with fail;refine(sI _ _ _ _ S.2.2.2.2.2.2.2.2.2.2.2.2.2.2.2.1 S.1 (by simp)).mono ?_;rintro e cv ⟨rfl,hb⟩;replace S:=keep hb S;clear hb;obtain⟨A9,c9,e9,_⟩:=S.2.2.2.2.2.2.2.2.2.2.2.2.2.2.2.2.1;subst e9;go_wp2_with fail;refine(sI _ _ _ _ S.2.2.2.2.2.2.2.2.2.2.2.2.2.2.2.1 S.2.2.2.2.2.2.2.2.2.2.2.1 (by simp)).mono ?_;rintro e cw ⟨rfl,hb⟩;replace S:=keep hb S;clear hb;go_wp2;go_ret;exact⟨rfl,S.2.2.2.2.2.2.2.2.2.2.2.2.2.2.2.2.2.2.2.2.2.2.2.2.2.1⟩
def MC(w)(hT:Tab w):Calls prog 4 #[] w (Ret w (.bool true)):=MB w w (NB _ _) hT
instance{w W:World}:ek w W True True:=⟨fun _ h=>h⟩
instance{w W:World}{t:cT}:ek w W (cW w t) (cW W t):=⟨fun hb h=>h.below hb⟩
instance{w W:World}{k:Nat}{v:Value}{l:List (List Value)}:ek w W (RowC w k v l) (RowC W k v l):=⟨fun hb h=>h.below hb⟩
def Bz{α:Type}:∀{a b:List α},aV eqB a b=true->a=b
 |[],[],_=>rfl
 |x::a,y::b,h=>by
  simp only[aV,Ob]at h;rw[ko.1 h.1,Bz h.2]
 |[],_::_,h=>by cases h
 |_::_,[],h=>by cases h
def MD{t:cT}(h:oI t){i p:Nat}(hi:i<t.src.items.length)(hp:p<8):∃cd,t.codes[i*8+p]? = some cd/\codeR t.src i p=some cd.code:=by
 obtain⟨_,_,_,cs,h1,h2⟩:=h;obtain⟨c,h3,h4⟩:=By h1 (show i*8+p<8*t.src.items.length by omega);rw[Bz h2,Ou]at h3;rw[show(i*8+p)/8=i by omega,show(i*8+p)%8=p by omega]at h4
 cases hc:t.codes[i*8+p]? with
 |none=>rw[hc]at h3;cases h3
 |some cd=>rw[hc]at h3;cases h3;exact⟨cd,rfl,h4⟩
def Got(w:World)(s:SrcR)(r:RecR)(g amt:Rt)(uv wv:Value)(ld e:Int):Prop:=
 (e=0/\∃us ws,needR s r g amt=some (us,ws)/\ld=r.lead/\sG w uv us/\sH w wv ws)\/(e=2/\needR s r g amt=none)
def Got.below{w W}{s}{r}{g amt}{uv wv}{ld e:Int}(h:Got w s r g amt uv wv ld e)(hb:eB w W):Got W s r g amt uv wv ld e:=by
 rcases h with⟨h1,us,ws,h2,h3,h4,h5⟩|h
 ·exact .inl ⟨h1,us,ws,h2,h3,h4.below hb,h5.below hb⟩
 ·exact .inr h
instance{w W:World}{s:SrcR}{r:RecR}{g amt:Rt}{uv wv:Value}{ld e:Int}:ek w W (Got w s r g amt uv wv ld e) (Got W s r g amt uv wv ld e):=⟨fun hb h=>h.below hb⟩
def ME{w w'}{R:Int×Mst}{e}{s}{r}{g amt}(h:yH w R e w')(hc:kT s r g amt R):eB w w'/\∃uv wv ld k,e=.returned (.tuple #[uv,wv,.int .i64 ld,.int .i64 k])/\Got w' s r g amt uv wv ld k:=by
 obtain⟨hb,h⟩:=h;refine⟨hb,?_⟩;unfold kT at hc
 cases hn:needR s r g amt with
 |none=>
  rw[hn]at hc
  simp only at hc
  rcases h with⟨h0,_⟩|⟨_,rfl⟩
  ·rw[hc]at h0;cases h0
  ·exact⟨_,_,_,_,rfl,.inr ⟨hc,hn⟩⟩
 |some q=>
  obtain⟨us,ws⟩:=q
  rw[hn]at hc
  obtain⟨c1,c2,c3,c4⟩:=hc
  rcases h with⟨_,uv,wv,rfl,h1,h2⟩|⟨h0,_⟩
  ·rw[c3]at h1
   rw[c4]at h2
   exact⟨_,_,_,_,rfl,.inl ⟨rfl,us,ws,hn,c2,h1.row,h2.row⟩⟩
  ·exact absurd c1 h0
def Got.far{w}{s}{r}{g amt q}{uv wv}{ld e:Int}(h:Got w s r g amt uv wv ld e)(hq:divR amt g=some q)(hc:∀k,ceilR q=some k->1099511627776<k):r.runs.length=0\/e=2:=by
 rcases h with⟨_,us,ws,h,_⟩|h
 ·refine .inl ?_;unfold needR at h;rw[hq]at h;simp only at h;split at h
  ·split at h
   ·split at h
    ·rename_i w hw;unfold worksR at hw;split at hw
     ·rename_i he;rw[List.isEmpty_iff.1 he];rfl
     ·split at hw
      ·rename_i k hk;have:=hc k hk;rw[if_pos this]at hw
       cases hw
      ·cases hw
    ·cases h
   ·cases h
  ·cases h
 ·exact .inr h.1
def MF(w)(hT:Tab w):Calls prog 17 #[.agg #[.bool false,.string ⟨#[]⟩,.string ⟨#[]⟩]] w (Ret w (.tuple #[.int .i64 0,.int .i64 70])):=by
 have HW:Hid (∀w,Tab w->Calls prog 36 #[.agg #[.bool false,.string ⟨#[]⟩,.string ⟨#[]⟩],.bool true] w (Ret w (.tuple #[.int .i64 0,.int .i64 70]))):=fun w hT=>by
  have HC:=MY (iP false ⟨#[]⟩ ⟨#[]⟩ (w.alloc (.cells #[.bool false,.string ⟨#[]⟩,.string ⟨#[]⟩] 37)) (hT.below ((NB w.heap.size w).alloc (No _) _)));rw[iO (by unfold bN;simp[show bv ⟨#[]⟩=0 from rfl])]at HC;clear hT;go_enter func36,ntmps36;go_wp2_with fail;refine HC.mono ?_;rintro e w1 ⟨rfl,ab⟩;have ac:=MY (((NB w.heap.size w).alloc (No _) _).trans (ab.mono (by simp)));clear ab;go_wp2;go_ret2;exact⟨rfl,ac.out⟩
 have HT:=MY hT;clear hT;go_enter func17,ntmps17;go_wp2_with fail;refine(HW.out _ (HT.below ((NB w.heap.size w).alloc (No _) _))).mono ?_;rintro e w1 ⟨rfl,ab⟩;have ac:=MY (((NB w.heap.size w).alloc (No _) _).trans (ab.mono (by simp)));clear ab;go_wp2;go_ret2;exact⟨rfl,ac.out⟩
def BC{P}{o:Oper}{a:Act}{w}{K:Act->World->Prop}{Q:Exit->Act->World->Prop}{t e}{k bytes:Nat}(hI:bE P t e k bytes)(s x)(ho:o.op=.call {callee:= .builtin .append,args:=#[s,x],argTypes:=#[t,t]})(B:Nat)(v)(L:List (List Value))(hs:a.eval s=v)(ac:aa w B e k v L)(A)(m c:Nat)(M:List (List Value))(hx:a.eval x=.slice A m c)(hr:RowC w k (.slice A m c) M)(hl:∀y∈M,y.length=k)(h1:∀y∈M,∀u∈y,u.oneCell'=true)(ao:L.length+M.length<=16777216)(ab:B<=w.heap.size)(h:∀v' w',aa w' B e k v' (L++M)->w.grownBy w' v.ownBlock->(v'.ownBlock=v.ownBlock\/v'.ownBlock=some w.heap.size)->K (a.put o.dst v') w'):o.wp P a w K Q:=by
 obtain⟨i,z,ht,hi,hz,ad,an,ar,hk,ag⟩:=hI;have hm:m=M.length:=by obtain⟨_,_,e,_⟩:=hr;injection e
 have al:(L.length+m)*bytes<=140737488355328:=Nv (Nat.mul_le_mul (show L.length+m<=16777217 by omega) ag) (by omega);refine jY w s x t ho B e i z k bytes ht hi hz ad an ar hk v L.length L.flatten hs ac.1 w.heap.size A m c M.flatten hx (hr.reads hl hk) (fun u hu=>?_) (by unfold maxLen;omega) al ab (fun v' w' h2 h3 h4=>h v' w' ⟨?_,?_⟩ h3 h4)
 ·obtain⟨y,hy,hu⟩:=List.mem_flatten.1 hu;exact h1 y hy u hu
 ·rw[Oe,List.flatten_append,<-hm];exact h2
 ·intro c hc;rcases Of.1 hc with hc|hc
  ·exact ac.2 c hc
  ·exact hl c hc
def vg{s}{q}{out:Bool}:∀{l:List aw} {us:List d9},usesR s q out l=some us->us.length=l.length/\∀(i:Nat)(a:aw),l[i]? = some a->∃x y,amtR s a=some x/\mulR x q=some y/\us[i]? = some (⟨a.itemNo,y,out,!out&&a.back⟩:d9)
 |[],us,h=>by cases h;exact⟨rfl,fun i a h=>by simp at h⟩
 |b::l,us,h=>by
  simp only[usesR]at h;split at h
  ·rename_i x hx;split at h
   ·rename_i y hy;split at h
    ·rename_i m hm
     cases h;obtain⟨h1,h2⟩:=vg hm;refine⟨by rw[M6,M6,h1],fun i a h=>?_⟩
     cases i with
     |zero=>cases h;exact⟨x,y,hx,hy,rfl⟩
     |succ i=>exact h2 i a h
    ·cases h
   ·cases h
  ·cases h
def MG{s}{r}{g amt q}{us:List d9}{ws:List (Int×Int)}{k:Nat}(h:needR s r g amt=some (us,ws))(hq:divR amt g=some q)(hk:ceilR q=some k) :us.length=r.ins.length+r.outs.length/\ws.length=r.runs.length/\(∀(i:Nat)(a:aw),(r.ins++r.outs)[i]? = some a->∃x y,amtR s a=some x/\mulR x q=some y/\us[i]? = some (⟨a.itemNo,y,decide (r.ins.length<=i),decide (i<r.ins.length)&&a.back⟩:d9))/\∀(i:Nat)(x:cO),r.runs[i]? = some x->ws[i]? = some (x.machNo,x.slots*k):=by
 unfold needR at h;rw[hq]at h;simp only at h;split at h
 ·rename_i u hu;split at h
  ·rename_i o ho;split at h
   ·rename_i w hw
    cases h;obtain⟨l1,f1⟩:=vg hu;obtain⟨l2,f2⟩:=vg ho;have ab:ws=r.runs.map fun x=>(x.machNo,x.slots*(k:Int)):=by
     unfold worksR at hw;split at hw
     ·rename_i he;rw[List.isEmpty_iff.1 he]
      cases hw;rfl
     ·rw[hk]at hw;simp only at hw;split at hw
      ·cases hw
      ·cases hw;rfl
    refine⟨by rw[Oe,l1,l2],by rw[ab,N6],fun i a ha=>?_,fun i x hx=>by rw[ab,Ou,hx];rfl⟩;by_cases hi:i<r.ins.length
    ·rw[N4 hi]at ha;obtain⟨x,y,h1,h2,h3⟩:=f1 i a ha;refine⟨x,y,h1,h2,?_⟩;rw[N4 (by omega),h3];simp[hi]
    ·rw[N5 (by omega)]at ha;obtain⟨x,y,h1,h2,h3⟩:=f2 _ a ha;refine⟨x,y,h1,h2,?_⟩;rw[N5 (by omega),l1,h3];simp[hi];omega
   ·cases h
  ·cases h
 ·cases h
structure kU(w:World)(t:cT)(N qb pb:Nat)(r:RecR)(q:Rt)(uv wv xv:Value)(us:List d9)(ws:List (Int×Int))(W:World):Prop where
 bl:eB w W
 tab:Tab W
 tv:cW W t
 kb:Blk W N (aL t) 35
 rb:Blk W qb (am r) 55
 qr:Blk W pb [.bool q.neg,.string (bs q.n),.string (bs q.d)] 37
 uu:sG W uv us
 ww:sH W wv ws
 xx:RowC W 7 xv ((r.ins++r.outs).map aG)
instance{w W V:World}{t:cT}{N qb pb:Nat}{r:RecR}{q:Rt}{uv wv xv:Value}{us:List d9}{ws:List (Int×Int)}:ek V W (kU w t N qb pb r q uv wv xv us ws V) (kU w t N qb pb r q uv wv xv us ws W):=
 ⟨fun hb h=>⟨h.bl.trans (hb.mono h.bl.size),h.tab.below hb,h.tv.below hb,h.kb.below hb h.kb.lt,h.rb.below hb h.rb.lt,h.qr.below hb h.qr.lt,h.uu.below hb,h.ww.below hb,h.xx.below hb⟩⟩
section
open Go.ChangeShapes Go.WideShapes
def BD{α:Type}(p:Nat->α->Prop):∀n:Nat,(∀i,i<n->∃a,p i a)->∃l:List α,l.length=n/\∀(i:Nat)(a:α),l[i]? = some a->p i a
 |0,_=>⟨[],rfl,fun i a h=>by simp at h⟩
 |n+1,h=>by
  obtain⟨l,hl,hp⟩:=BD p n (fun i hi=>h i (by omega));obtain⟨a,ha⟩:=h n (by omega);refine⟨l++[a],by simp[hl],fun i b hb=>?_⟩;rcases Nh i n with hi|hi
  ·rw[N4 (by omega)]at hb;exact hp i b hb
  ·rw[N5 (by omega)]at hb;have:i-l.length=0:=by have:=(NQ.1 hb).1;simp at this;omega
   rw[this]at hb;simp at hb;subst hb;obtain rfl:i=n:=by omega
   exact ha
def BF(a:Addr):a.add 0=a:=by unfold Addr.add;simp
def MH{H:Type}(d:DataW H):1<=Rows.uptoBulk d:=by
 cases d with
 |lit l=>cases l <;> simp[Rows.uptoBulk]
 |_=>simp[Rows.uptoBulk]
def vh{H:Type}{d:DataW H}:∀{l:List (DataW H)},d∈l->Rows.uptoBulk d<=Rows.uptoBulkAll l
 |x::r,h=>by
  simp only[Rows.uptoBulkAll];rcases Og.1 h with e|e
  ·subst e;omega
  ·have:=vh e;omega
def BG{H:Type}:∀l:List (DataW H),l.length<=Rows.uptoBulkAll l
 |[]=>by simp[Rows.uptoBulkAll]
 |x::r=>by have:=MH x;have:=BG r;simp only[Rows.uptoBulkAll,M6];omega
def MI{H:Type}{xs:List (DataW H×List MemPlace)}{y:DataW H×List MemPlace}{B:Nat}(h:y∈xs)(hb:Rows.uptoBulk (DataW.agg (xs.map (·.1)))<=B):Rows.uptoBulk y.1<=B:=by
 have:=vh (List.mem_map_of_mem (f:=fun x=>x.1) h);simp only[Rows.uptoBulk]at hb;omega
structure Env(H:Type) where
 enc:TypeId×Value->H
 w:World
 base:Nat
 spare:Nat->Bool
 held:Bool
section
variable {H:Type} {E:Env H} {cs:List Value} {T:TypeId}
def Trd(E:Env H)(T:TypeId)(cs:List Value):Prop:=∃fuel x,DataW.trod E.enc prog E.w E.base E.spare E.held fuel T cs=some x/\Rows.uptoBulk x.1<=BIG
class Opn(T:TypeId){α:outParam Type}(f:outParam (α->List Value))(Q:outParam (World->α->Prop)):Prop where
 out:∀{H:Type} {E:Env H} {cs:List Value},Trd E T cs->∃u,cs=f u/\Q E.w u
def mE(E:Env H):List Field->List Value->Prop
 |[],cs=>cs=[]
 |f::r,cs=>∃a b,cs=a++b/\Trd E f.type a/\mE E r b
def mE.nx{f:Field}{r:List Field}{α:Type}{g:α->List Value}{Q:World->α->Prop}[o:Opn f.type g Q]:mE E (f::r) cs->∃u b,cs=g u++b/\Q E.w u/\mE E r b
 |⟨_,b,e,h,h'⟩=>let ⟨u,e',q⟩:=o.out h;⟨u,b,e'▸e,q,h'⟩
noncomputable def okF(T:TypeId):Nat->List Field->Bool
 |n,[]=>n==prog.cellsOf T
 |n,f::r=>f.offset==n&&okF T (n+prog.cellsOf f.type) r
def fW{fs:List Field}(hU:prog.underlying T=some (.struct fs.toArray))(ho:okF T 0 fs=true)(h:Trd E T cs):mE E fs cs:=by
 obtain⟨fuel,x,h,hb⟩:=h;obtain⟨xs,m,_,rfl,ab,hx,hf⟩:=DataW.trod_struct hU h;have go:∀(r:List Field)(n i:Nat),fs.drop i=r->okF T n r=true->mE E r (cs.drop n):=by
  intro r;induction r with
  |nil=>intro n i _ h;exact List.drop_eq_nil_of_le (by rw[ab,<-eq_of_beq h];exact No _)
  |cons f r ih=>
   intro n i hi h
   obtain⟨h1,h2⟩:=Ob _ _▸h
   have ac:fs[i]? = some f:=by rw[<-List.head?_drop,hi];rfl
   have hn:=hf i f (by simpa using ac)
   rw[eq_of_beq h1]at hn
   have ad:i<xs.length:=by rw[hx,NV];exact(NQ.1 ac).1
   rw[Nx ad]at hn
   exact⟨_,_,(List.take_append_drop (prog.cellsOf f.type) _).symm,⟨m,_,hn,MI (OG ad) hb⟩,by rw[List.drop_drop];exact ih _ (i+1) (by rw[<-List.drop_drop,hi];rfl) h2⟩
 exact go fs 0 0 rfl ho
end
instance:Opn 9 bF (fun _ _=>True):=⟨fun⟨_,_,h,_⟩=>let ⟨s,e,_⟩:=DataW.trod_string underlying9 h;⟨s,e,trivial⟩⟩
instance:Opn 3 af (fun _ _=>True):=⟨fun⟨_,_,h,_⟩=>let ⟨s,e,_⟩:=DataW.trod_int underlying3 h;⟨s,e,trivial⟩⟩
instance:Opn 4 (fun b=>[.bool b]) (fun _ _=>True):=⟨fun⟨_,_,h,_⟩=>let ⟨s,e,_⟩:=DataW.trod_bool underlying4 h;⟨s,e,trivial⟩⟩
class SlE(T:TypeId)(E:outParam TypeId)(k:outParam Nat):Prop where
 u:prog.underlying T=some (.slice E)
 q:prog.cellsOf E=k
 p:0<k
instance opn_rows{T T':TypeId}{k:Nat}[hS:SlE T T' k]{α:Type}{f:α->List Value}{Q:World->α->Prop}[hP:Opn T' f Q]:Opn T (fun p:Value×List α=>[p.1]) (fun w p=>RowC w k p.1 (p.2.map f)/\(∀u∈p.2,Q w u)/\p.2.length<=BIG):=⟨fun{H E cs} h=>by
 obtain⟨_,x,hf,hb⟩:=h;have hk:=hS.q;have av:=hS.p;rcases Deep.open_slice hS.u hf with⟨hc,_⟩|⟨a,len,cap,m,n,D,Pl,hc,_,hl,hm,ax,rfl,hi⟩
 ·exact⟨(_,[]),hc,RowC.nil _ _ _ _,fun _ h=>(by cases h),Nu _⟩
 ·have bb:len<=m:=by rw[ax];split <;> omega
  simp only[Rows.uptoBulk]at hb;have ac:=BG ((List.range len).map D);rw[N6,N7]at ac;rw[hk]at hi;obtain⟨L,an,hp⟩:=BD (fun i (u:α)=>E.w.cells? E.base (a.add (i*k)) k=some (f u)/\Q E.w u) len (fun i al=>by
   obtain⟨cs,h1,h2⟩:=hi i (by omega);obtain⟨u,rfl,hq⟩:=hP.out ⟨_,_,h2,Nv (vh (List.mem_map_of_mem (f:=D) (OH.2 al))) (by omega)⟩;exact⟨u,h1,hq⟩)
  refine⟨(_,L),hc,⟨some a,cap,by rw[N6,an],by rw[N6,an];exact hl,fun i cs ag=>?_⟩,fun u hu=>?_,by rw[an];omega⟩
  ·rw[Ou]at ag
   cases hL:L[i]? with
   |none=>rw[hL]at ag;cases ag
   |some u=>
   rw[hL]at ag
   cases ag;have al:i<L.length:=(NQ.1 hL).1;obtain⟨u0,aA⟩:=gx (l:=L) (i:=0);obtain⟨_,ba,ab⟩:=World.cells?_some (hp 0 u0 aA).1;have ao:=ab 0 av;rw[Nx (show 0<(f u0).length by omega),Nat.zero_mul,BF,BF]at ao;have ar:a.spot=none:=World.cell?_spot ao;obtain⟨_,ac,ad⟩:=World.cells?_some (hp i u hL).1;obtain⟨b,off,sp⟩:=a;simp only at ar;subst ar;refine⟨b,off,rfl,?_,fun j x hx=>?_⟩
   ·obtain⟨o,ho,_⟩:=cells_of_cell ao;exact(NX.1 ho).1
   ·have hj:j<k:=by rw[<-ac];exact(NQ.1 hx).1
    have:=ad j hj;rw[hx]at this;rw[<-this];congr 1;unfold Addr.add;split <;> split <;> simp_all <;> omega
  ·obtain⟨i,al,rfl⟩:=List.getElem_of_mem hu;exact(hp i _ (Nx al)).2⟩
instance:Opn 37 (fun p:Bool×ByteArray×ByteArray=>[.bool p.1,.string p.2.1,.string p.2.2]) (fun _ _=>True):=⟨fun h=>by
 have h:=fW underlying37 (by kernel_rfl) h;iterate 3 obtain⟨_,_,rfl,_,h⟩:=h.nx
 cases h;exact⟨⟨_,_,_⟩,rfl,trivial⟩⟩
instance:Opn 118 aT (fun _ _=>True):=⟨fun h=>by
 have h:=fW underlying118 (by kernel_rfl) h;iterate 4 obtain⟨_,_,rfl,_,h⟩:=h.nx
 cases h;exact⟨⟨_,_,_,_⟩,rfl,trivial⟩⟩
instance:Opn 59 aG (fun _ _=>True):=⟨fun h=>by
 have h:=fW underlying59 (by kernel_rfl) h;iterate 7 obtain⟨_,_,rfl,_,h⟩:=h.nx
 cases h;exact⟨⟨_,_,_,_,_,_,_⟩,rfl,trivial⟩⟩
instance:Opn 67 cQ (fun _ _=>True):=⟨fun h=>by
 have h:=fW underlying67 (by kernel_rfl) h;iterate 3 obtain⟨_,_,rfl,_,h⟩:=h.nx
 cases h;exact⟨⟨_,_,_⟩,rfl,trivial⟩⟩
instance:Opn 172 eX (fun _ _=>True):=⟨fun h=>by
 have h:=fW underlying172 (by kernel_rfl) h;iterate 4 obtain⟨_,_,rfl,_,h⟩:=h.nx
 cases h;exact⟨⟨_,_,_,_⟩,rfl,trivial⟩⟩
instance:Opn 163 dF (fun _ _=>True):=⟨fun h=>by
 have h:=fW underlying163 (by kernel_rfl) h;iterate 4 obtain⟨_,_,rfl,_,h⟩:=h.nx
 cases h;exact⟨⟨_,_,_,_⟩,rfl,trivial⟩⟩
instance:Opn 95 dw (fun _ _=>True):=⟨fun h=>by
 have h:=fW underlying95 (by kernel_rfl) h;iterate 6 obtain⟨_,_,rfl,_,h⟩:=h.nx
 cases h;exact⟨⟨_,_,_,_,_,_⟩,rfl,trivial⟩⟩
instance:Opn 103 aW (fun _ _=>True):=⟨fun h=>by
 have h:=fW underlying103 (by kernel_rfl) h;iterate 5 obtain⟨_,_,rfl,_,h⟩:=h.nx
 obtain⟨⟨_,_,_⟩,_,rfl,_,h⟩:=h.nx
 cases h;exact⟨⟨_,_,_,_,_,_,_,_⟩,rfl,trivial⟩⟩
instance:Opn 72 au (fun _ _=>True):=⟨fun h=>by
 have h:=fW underlying72 (by kernel_rfl) h;iterate 3 obtain⟨_,_,rfl,_,h⟩:=h.nx
 obtain⟨⟨_,_,_⟩,_,rfl,_,h⟩:=h.nx
 cases h;exact⟨⟨_,_,_,_,_,_⟩,rfl,trivial⟩⟩
instance:SlE 24 9 1:=⟨underlying24,by kernel_rfl,by decide⟩
instance:SlE 32 3 1:=⟨underlying32,by kernel_rfl,by decide⟩
instance:SlE 51 118 4:=⟨underlying51,by kernel_rfl,by decide⟩
instance:SlE 52 59 7:=⟨underlying52,by kernel_rfl,by decide⟩
instance:SlE 53 67 3:=⟨underlying53,by kernel_rfl,by decide⟩
instance:SlE 29 172 4:=⟨underlying29,by kernel_rfl,by decide⟩
instance:SlE 25 163 4:=⟨underlying25,by kernel_rfl,by decide⟩
instance:SlE 23 95 6:=⟨underlying23,by kernel_rfl,by decide⟩
instance:SlE 22 103 8:=⟨underlying22,by kernel_rfl,by decide⟩
instance:SlE 73 72 6:=⟨underlying73,by kernel_rfl,by decide⟩
instance:SlE 26 81 2:=⟨underlying26,by kernel_rfl,by decide⟩
instance:SlE 28 55 17:=⟨underlying28,by kernel_rfl,by decide⟩
instance:SlE 27 51 1:=⟨underlying27,by kernel_rfl,by decide⟩
instance:SlE 33 73 1:=⟨underlying33,by kernel_rfl,by decide⟩
instance:Opn 81 bX (fun w u=>RowC w 1 u.cv (u.choices.map bF)/\u.choices.length<=BIG):=⟨fun h=>by
 have h:=fW underlying81 (by kernel_rfl) h;obtain⟨_,_,rfl,_,h⟩:=h.nx;obtain⟨⟨_,_⟩,_,rfl,q,h⟩:=h.nx
 cases h;exact⟨⟨_,_,_⟩,rfl,q.1,q.2.2⟩⟩
instance:Opn 51 gc (fun w u=>RowC w 4 u.cv (u.conds.map aT)/\u.conds.length<=BIG):=⟨fun h=>let ⟨_,e,q⟩:=opn_rows.out h;⟨⟨_,_⟩,e,q.1,q.2.2⟩⟩
instance:Opn 73 codeC qi:=⟨fun h=>let ⟨_,e,q⟩:=opn_rows.out h;⟨⟨_,_⟩,e,q.1,q.2.2⟩⟩
instance:Opn 55 am aQ:=⟨fun h=>by
 have h:=fW underlying55 (by kernel_rfl) h;iterate 4 obtain⟨_,_,rfl,_,h⟩:=h.nx
 obtain⟨⟨_,_⟩,_,rfl,q1,h⟩:=h.nx;obtain⟨⟨_,_⟩,_,rfl,q2,h⟩:=h.nx;obtain⟨⟨_,_⟩,_,rfl,q3,h⟩:=h.nx;iterate 7 obtain⟨_,_,rfl,_,h⟩:=h.nx
 obtain⟨⟨_,_⟩,_,rfl,q4,h⟩:=h.nx;iterate 2 obtain⟨_,_,rfl,_,h⟩:=h.nx
 cases h;exact⟨⟨_,_,_,_,_,_,_,_,_,_,_,_,_,_,_,_,_,_,_,_,_⟩,rfl,q1.1,q2.1,q3.1,q4.1,q1.2,q2.2.2,q3.2.2,q4.2.2⟩⟩
instance:Opn 31 srcC ap:=⟨fun h=>by
 have h:=fW underlying31 (by kernel_rfl) h;obtain⟨⟨_,_⟩,_,rfl,q0,h⟩:=h.nx;obtain⟨⟨_,_⟩,_,rfl,q1,h⟩:=h.nx;obtain⟨⟨_,_⟩,_,rfl,q2,h⟩:=h.nx;obtain⟨⟨_,_⟩,_,rfl,q3,h⟩:=h.nx;obtain⟨⟨_,_⟩,_,rfl,q4,h⟩:=h.nx;obtain⟨⟨_,_⟩,_,rfl,q5,h⟩:=h.nx;obtain⟨⟨_,_⟩,_,rfl,q6,h⟩:=h.nx;obtain⟨⟨_,_⟩,_,rfl,q7,h⟩:=h.nx
 cases h;exact⟨⟨_,_,_,_,_,_,_,_,_,_,_,_,_,_,_,_⟩,rfl,q0.1,q1.1,q2.1,q3.1,q4.1,q5.1,q6.1,q7.1,q4.2.1,q5.2.1,q6.2.1,q0.2.2,q1.2.2,q2.2.2,q3.2.2,q4.2.2,q5.2.2,q6.2.2,q7.2.2⟩⟩
instance:Opn 35 aL cW:=⟨fun h=>by
 have h:=fW underlying35 (by kernel_rfl) h;obtain⟨_,_,rfl,q0,h⟩:=h.nx;obtain⟨⟨_,_⟩,_,rfl,q1,h⟩:=h.nx;obtain⟨⟨_,_⟩,_,rfl,q2,h⟩:=h.nx
 cases h;exact⟨⟨_,_,_,_,_⟩,rfl,q0,q1.1,q1.2.2,q2.1,q2.2.2,q2.2.1⟩⟩
def MJ{H:Type}{enc:TypeId×Value->H}{w}{base:Nat}{spare:Nat->Bool}{held:Bool}{fuel:Nat}{cs}{x:DataW H×List MemPlace}(h:DataW.trod enc prog w base spare held fuel 35 cs=some x)(hb:Rows.uptoBulk x.1<=BIG):∃t:cT,cs=aL t/\cW w t:=Opn.out (E:=⟨enc,w,base,spare,held⟩) ⟨_,_,h,hb⟩
section
variable {H:Type} {enc:TypeId×Value->H}
def BH{P}(hl:laidOutB P=true){W W'}(hb:eB W W') :∀{ts:List TypeId} {vs:List Value} {ds:List (DataW H)} {ps:List MemPlace},(ts.all fun t=>P.readableRec t&&decide (t<P.types.size))=true->DataW.TrodAll enc P W 0 (fun _=>true) true ts vs ds ps->(∀x∈ps,x.block<W.heap.size)->DataW.TrodAll enc P W' 0 (fun b=>decide (b<W.heap.size)) true ts vs ds ps
 |[],_,_,_,_,h,_=>by
  obtain⟨rfl,rfl,rfl⟩:=trodAll_nil h;exact h
 |t::ts,_,_,_,hr,h,hp=>by
  obtain⟨v,ac,d,ab,a,b,rfl,rfl,rfl,h1,h2⟩:=trodAll_cons h;simp only[List.all_cons,Ob,decide_eq_true_eq]at hr;exact⟨a,b,Below.trod hl hr.1.1 hr.1.2 h1 hb (fun x hx=>hp x (by simp[hx])),BH hl hb (by simpa using hr.2) h2 (fun x hx=>hp x (by simp[hx])),rfl⟩
def MK{f:Func}{s:ChangeSpec}{apart ad ab:Bool}{W W'}{args:Array Value}{ds:List (DataW H)}{ac:List MemPlace}{t}(hl:laidOutB prog=true)(hu:prog.underlying t=some .bool)(hf:f.resultTypes=#[t])(hr:(f.params.toList.all fun t=>prog.readableRec t&&decide (t<prog.types.size))=true)(hv:s.vars=[])(ag:s.fn H ds={results:=[.lit (.bool true)],args:=ds,vars:=[]})(hW:DataW.Whole enc prog f.params.toList s.vars apart W args.toList ds [] ac)(hb:eB W W') :s.post enc prog f apart ad ab false W args (.bool true) W':=by
 have al:=hW.lt;obtain⟨p,q,hA,hV,rfl,hz,hn⟩:=id hW;rw[hv]at hV;obtain⟨_,rfl⟩:=trodVars_none hV;refine⟨ds,[],_,[],p,[],hW,?_,?_,?_,hb.frame _,fun h=>by cases h⟩
 ·rw[Oz,ag,hf];exact trodAll_mk1 (shut_bool hu _)
 ·rw[Oz,ag];exact BH hl hb hr hA (fun x hx=>al x (by simp[hx]))
 ·rw[Oz,ag,hv];exact rfl
def ML{P}{w}{base:Nat}{spare:Nat->Bool}{held:Bool}{t0 t1 t2 t3 t4 t5}{args:Array Value}{ds:List (DataW H)}{ps:List MemPlace}(h:DataW.TrodAll enc P w base spare held [t0,t1,t2,t3,t4,t5] args.toList ds ps) :∃v0 v1 v2 v3 v4 v5 d0 d1 d2 d3 d4 d5 p0 p1 p2 p3 p4 p5,args=#[v0,v1,v2,v3,v4,v5]/\ds=[d0,d1,d2,d3,d4,d5]/\ps=p0++(p1++(p2++(p3++(p4++p5))))/\DataW.Trod enc P w base spare held t0 v0 d0 p0/\DataW.Trod enc P w base spare held t1 v1 d1 p1/\DataW.Trod enc P w base spare held t2 v2 d2 p2/\DataW.Trod enc P w base spare held t3 v3 d3 p3/\DataW.Trod enc P w base spare held t4 v4 d4 p4/\DataW.Trod enc P w base spare held t5 v5 d5 p5:=by
 obtain⟨v0,ar,d0,ac,p0,q0,ab,rfl,rfl,h0,r0⟩:=trodAll_cons h;obtain⟨v1,av,d1,ad,p1,q1,rfl,rfl,rfl,h1,r1⟩:=trodAll_cons r0;obtain⟨v2,ax,d2,ag,p2,q2,rfl,rfl,rfl,h2,r2⟩:=trodAll_cons r1;obtain⟨v3,aA,d3,al,p3,q3,rfl,rfl,rfl,h3,r3⟩:=trodAll_cons r2;obtain⟨v4,ba,d4,an,p4,q4,rfl,rfl,rfl,h4,r4⟩:=trodAll_cons r3;obtain⟨v5,bb,d5,ao,p5,q5,rfl,rfl,rfl,h5,r5⟩:=trodAll_cons r4;obtain⟨rfl,rfl,rfl⟩:=trodAll_nil r5;exact⟨v0,v1,v2,v3,v4,v5,d0,d1,d2,d3,d4,d5,p0,p1,p2,p3,p4,p5,by cases args;simp_all,rfl,by simp,h0,h1,h2,h3,h4,h5⟩
def own0:ownKnob prog.godebug=none:=by kernel_rfl
def MM:prog.globalNamed "math/bits.deBruijn64tab" = some 0:=by kernel_rfl
def MN:(prog.globals[0]?).map (·.type)=some 327:=by kernel_rfl
def MP:prog.cellsOf 5=1:=by kernel_rfl
def MQ{K:Type}:(Rows.laid_math_bits_deBruijn64tab:DataW K)=.agg ((List.range 64).map fun j=> .lit (.int .u8 ((Lib.deBruijn64tab.getD j 0:Nat):Int))):=rfl
def MR{W}(h:laidMetH prog [("math/bits.deBruijn64tab",Rows.laid_math_bits_deBruijn64tab)] W):Tab W:=by
 rw[MakeChecks.laidMetH_plain _ _ _ (by kernel_rfl)]at h;obtain⟨ps,⟨g0,t0,av,f0,p0,q0,ac,ao,ar,ag,_,_⟩,_,_⟩:=h;obtain rfl:=Option.some.inj (MM.symm.trans ac);obtain rfl:=Option.some.inj (MN.symm.trans ao);obtain⟨xs,m1,rfl,ab,an,hn,al⟩:=DataW.trod_array underlying327 ag;rw[MQ]at ab;simp only[Prod.mk.injEq,DataW.agg.injEq]at ab;have key:∀j,j<64->W.cell? ⟨0,j,none⟩=some (.int .u8 ((Lib.deBruijn64tab.getD j 0:Nat):Int)):=fun j hj=>by
  have ad:j<xs.length:=by omega
  have h1:=al j hj;rw[Nx ad,MP]at h1;obtain⟨k,e1,e2,_⟩:=DataW.trod_int underlying5 h1;have e3:=congrArg (fun l=>l[j]?) ab.1;simp only[Ou,List.getElem?_range hj,Nx ad,Option.map_some,Option.some.injEq,e2]at e3;have hk:((Lib.deBruijn64tab.getD j 0:Nat):Int)=k:=by simpa using e3
  rw[hk];have h2:=World.var?_cell ac ar j;rw[h2];have e4:=congrArg List.head? e1;rw[List.head?_take,if_neg (by omega),List.head?_drop,Ov]at e4;simpa using e4
 have hc:=key 0 (by omega);obtain⟨o,ho,_⟩:=cells_of_cell hc;exact⟨(NX.1 ho).1,key⟩
def MS(os:Os)(args):laidMet prog [("math/bits.deBruijn64tab",Rows.laid_math_bits_deBruijn64tab)] ((World.doorLaid prog 400 os).forCall (fun _ _=>0) ⟨#[],args,[]⟩).memory:=laidMet_of_run' 8 (by kernel_rfl) (by kernel_rfl)
end
end
end Go.Proofs.YtgbbhcbkldhjiaaGreatDoor
