import Derived.Test.YtgbbhcbkldhjiaaGreatDoorK02
import Derived.Great.Walk
import Derived.ChangeKeysEq
set_option linter.all false
set_option maxRecDepth 100000
set_option maxHeartbeats 16000000
namespace Go.Proofs.YtgbbhcbkldhjiaaGreatDoor
open Go.Proofs.Tryz Go.RowKit Bf
section
open Go Go.RowKit
abbrev OL:=@List.append_assoc
end
def xD(w:World)(o:Option (List aC))(e:Ending)(w':World):Prop:=
 eB w w'/\match o with
  |some x=>∃v,e=.returned (.tuple #[v,.int .i64 0])/\aa w' w.heap.size 103 8 v (x.map aW)
  |none=>∃k:Int,k≠0/\e=.returned (.tuple #[.slice none 0 0,.int .i64 k])
def xE(l m x:List aC):resAll x (l++m)=match resAll x l with|some y=>resAll y m|none=>none:=by
 induction l generalizing x with
 |nil=>rfl
 |cons a l ih=>
  simp only[MZ,resAll]
  cases resU x x.length a with
  |none=>rfl
  |some c=>exact ih _
def xF{L x:List aC}{k:Nat}{u}(h:resAll [] (L.take k)=some x)(hx:L[k]? = some u):resAll [] (L.take (k+1))=match resU x x.length u with|some u'=>some (x++[u'])|none=>none:=by
 rw[Ox,hx,xE,h];simp only[Option.toList,resAll]
 cases resU x x.length u <;> rfl
def FD{L x:List aC}{k:Nat}{u}(h:resAll [] (L.take k)=some x)(hx:L[k]? = some u)(hu:resU x x.length u=none):resAll [] L=none:=by
 rw[<-List.take_append_drop (k+1) L,xE,xF h hx,hu]
def FE{x:List aC}{k j:Nat}{u v:aC}(he:u.of.toList.isEmpty=false)(hn:gF u.n=true)(hd:gF u.d=true)(hj:(x.findIdx? fun v=>decide (v.name=u.of))=some j)(hv:x[j]? = some v) :resU x k u=match scaleR v u.n.toNat u.d.toNat with|none=>none|some r=>some {u with base:=v.base,neg:=r.neg,sn:=bs r.n,sd:=bs r.d}:=by
 unfold resU;rw[if_neg (by simp[he]),if_pos (by rw[hn,hd] <;> rfl),hj];simp only[hv];cases scaleR v u.n.toNat u.d.toNat <;> rfl
def FF{x:List aC}{k:Nat}{u:aC}(he:u.of.toList.isEmpty=true)(hn:u.n=0)(hd:u.d=0):resU x k u=some {u with base:=k,neg:=false,sn:=bs 1,sd:=bs 1}:=by
 unfold resU;rw[if_pos he,if_pos ⟨hn,hd⟩]
def FG(a b):prodR [a,b] aq=(mulR aq a).bind fun c=>mulR c b:=by
 simp only[prodR]
 cases mulR aq a with
 |none=>rfl
 |some c=>show(match mulR c b with|some d=>some d|none=>none)=mulR c b;cases mulR c b <;> rfl
def Sep.wr{As:List Asn}{w:World}(_:Sep As w)(i:Nat)(c:List Value)(j:Nat)(v:Value)(L:List (List Value))(W:World):Prop:=Sep (upR (upC As i c) j v L) W
section
attribute [local simp] calcV
instance meant_con{As:List Asn}{bx i j:Nat}{xv:Value}{x:List aC}{s:ByteArray}{T:TypeId}[h:Has As bx [xv] T i][hr:cH As xv 103 8 (x.map aW) j][hl:Fct (x.length<=1048576)] :aB prog 146 #[.string s,.pointer bx] As (.int .i64 (idxI (fun v=>decide (v.name=s)) x)):=⟨fun w M=>by
 have ac:=mF;have hb:=M.blk h;haveI:ah w xv aC 8 x aW:=⟨(M.own hr).row,hl.out⟩
 have hR:=(M.own hr).row;have hE:Hid (∀W,eB w W->W.rangeAt bx 0 [xv]):=fun W hW=>ai (hb.below hW hb.lt);clear hb;replace M:=Sep.new w;haveI:∀As b i [Has As b [.string s] 9 i] [Old As w],aB prog 147 #[xv,.func (.func 148) #[] #[.pointer (some ⟨b,0,none⟩)]] As (.int .i64 (idxI (fun v=>decide (v.name=s)) x)):=fun As b i hh _=>⟨fun W M=>by
  refine xA xv x _ _ _ W (fun _ _=>rfl) (hR.below M.bel) hl.out fun u W' ab=>?_;have hk:=(M.ext ab).blk hh;have hE:Hid (∀V,Below W'.heap.size W' V->V.rangeAt b 0 [.string s]):=fun W hW=>ai (hk.below hW hk.lt);replace M:=Sep.new W';rw[show(decide (u.name=s))=(u.name.toList==s.toList) by
   by_cases h:u.name=s
   ·subst h;simp
   ·have:¬u.name.toList=s.toList:=by rw[toList_inj];exact h
    simp[h,this]]
  clear hk hR hl h hr;show Calls _ _ #[.agg (aW u).toArray,_] _ _;go_enter func148,ntmps148;go_wp2_with refine mz M fun M=>?_;exact mr M ⟨rfl,M.bel⟩⟩
 go_enter func146,ntmps146;go_wp2_with refine mz M fun M=>?_;exact mr M ⟨rfl,M.bel⟩⟩
def xG(v)(L:List aC)(w)(hL:RowC w 8 v (L.map aW))(hl:L.length<=1048576)(hT:Tab w):Calls prog 105 #[v] w (xD w (eF L)):=by
 have bl:=mF;haveI:=Fct.mk hT;haveI:ah w v aC 8 L (fun u=>[.string u.name,.string u.of,.int .i64 u.n,.int .i64 u.d,.int .i64 u.base,.bool u.neg,.string u.sn,.string u.sd]):=⟨hL,hl⟩
 haveI bd:∀As [Old As w],aB prog 145 #[v] As (.bool (jF L)):=fun As _=>⟨fun W M=>FC v L W (hL.below M.bel) hl⟩
 obtain⟨r1,ag⟩:=nm aq;have be:=jz;haveI:∀As [Old As w],aB prog 33 #[.int .i64 1,.int .i64 1] As (.tuple #[.agg (rtC r1).toArray,.int .i64 0]):=fun As _=>⟨fun W M=>by
  have:=ej 1 1 W (by omega) (by omega) (by omega) (hT.below M.bel);rwa[show lowR false 1 1=r1 by rw[<-ag];simp[lowR,aq]]at this⟩
 replace ag:=MY ag;obtain⟨res,ab⟩:=nm (eF L);rw[ab];have M:=(Sep.new w).nilR 103 8;by_cases bi:32<L.length
 ·have t1:decide ((32:Int)<L.length)=true:=by simp;omega
  go_enter func105,ntmps105;go_wp2_with refine mz M fun M=>?_;rw[show res=none by rw[<-ab];unfold eF;rw[if_neg (by omega)]];exact mr M ⟨M.bel,90,by decide,rfl⟩
 have t1:decide ((32:Int)<L.length)=false:=by simp;omega
 unfold eF at ab;rw[if_pos (by omega)]at ab
 cases tw:jF L
 case true=>
  simp only[tw]at bd;go_enter func105,ntmps105;go_wp2_with refine mz M fun M=>?_;rw[show res=none by rw[<-ab,tw];rfl];exact mr M ⟨M.bel,111,by decide,rfl⟩
 rw[tw]at ab;simp only[tw]at bd;replace ab:Hid (resAll [] L=res):=ab;go_enter func105,ntmps105;go_wp2_with refine mz M fun M=>?_;obtain⟨one,ob,rfl,rfl⟩:=M.a2;go_loopw [25] (fun i W=>∃(k:Nat)(x:List aC) (xv:Value),k<=L.length/\i=.int .i64 k/\Hid (resAll [] (L.take k)=some x/\x.length=k)/\M.wr 1 [xv] 2 xv (x.map aW) W) (fun i _=>L.length-(intOf i).toNat)
 case atStart=>exact⟨0,[],.slice none 0 0,Nu _,rfl,⟨rfl,rfl⟩,M⟩
 obtain⟨k,x,xv,hk,rfl,HX,M⟩:=hrel;simp only[Sep.wr,upC,upR]at M;obtain⟨Ax,mx,cx,rfl⟩:∃A m c,xv=.slice A m c:=by obtain⟨A,c,e⟩:=(M.own (i:=2) ⟨rfl⟩).slice;exact⟨A,_,c,e⟩
 by_cases bg:k<L.length
 case neg=>
  go_wp2_with refine mz M fun M=>?_;rw[show res=some x by rw[<-ab.out,<-HX.1,Ny (by omega)]];exact mr M ⟨M.bel,.slice Ax mx cx,rfl,M.own0⟩
 obtain⟨u,hu⟩:=gx (l:=L) (i:=k) bg;have ac:Hid (resU x k u=none->res=none):=fun h=>by rw[<-ab.out];exact FD HX.1 hu (by rw[HX.2];exact h)
 have ad:Hid (∀u',resU x k u=some u'->resAll [] (L.take (k+1))=some (x++[u'])/\(x++[u']).length=k+1):=fun u' h=>⟨by rw[xF HX.1 hu,HX.2,h],by simp[HX.2]⟩
 have bm:Fct (x.length<=1048576):=⟨by have:=HX.2;omega⟩
 have hL:(x.map aW).length<=16777216:=by rw[N6];have:=HX.2;omega
 haveI:∀n As,aB prog 149 #[.int .i64 n] As (.bool (gF n)):=fun n As=>⟨fun W _=>(Fu n W).mono fun _ _ ⟨e,h⟩=>⟨e,h▸NB _ _⟩⟩
 cases em:u.of.toList.isEmpty
 case true=>
  haveI:∀As [Old As w],aB prog 150 #[.slice none 0 0,.agg (rtC r1).toArray,.func (.func 15) #[] #[]] As (.tuple #[.agg (rtC r1).toArray,.int .i64 0]):=fun As _=>⟨fun W M=>by
   rw[<-ag.out];have:=xu (.slice none 0 0) [] aq W (RowC.nil W 3 none 0) (by simp) jz (by simp) (hT.below M.bel);exact this⟩
  have ax:u.n=0->u.d=0->resU x k u=some {u with base:=k,neg:=r1.neg,sn:=bs r1.n,sd:=bs r1.d}:=fun h1 h2=>by rw[<-ag.out];exact FF em h1 h2
  have ao:¬(u.n=0/\u.d=0)->res=none:=fun h=>ac.out (by unfold resU;rw[if_pos em,if_neg h]);replace ax:=MY ax;replace ao:=MY ao
  cases h1:u.n != 0
  case' false=>cases h2:u.d != 0
  all_goals
   go_wp2_with(first|refine mz M fun M=>?_|refine mp M fun M=>?_|refine mv M fun M=>?_)
  ·have:=ad.out _ (ax.out (by simpa using h1) (by simpa using h2));go_roundw
   case rel=>exact⟨k+1,_,_,by omega,by go_num,this,by rw[N9];exact M.dr 2⟩
   case measure=>simp[intOf];omega
  ·rw[ao.out fun h=>by rw[h.2]at h2;cases h2];exact mr M ⟨M.bel,90,by decide,rfl⟩
  ·rw[ao.out fun h=>by rw[h.1]at h1;cases h1];exact mr M ⟨M.bel,90,by decide,rfl⟩
 cases ar:gF u.n
 case false=>
  go_wp2_with refine mz M fun M=>?_;rw[ac.out (by unfold resU;rw[if_neg (by simp[em]),if_neg (by simp[ar])])];exact mr M ⟨M.bel,90,by decide,rfl⟩
 cases av:gF u.d
 case false=>
  go_wp2_with refine mz M fun M=>?_;rw[ac.out (by unfold resU;rw[if_neg (by simp[em]),if_neg (by simp[av])])];exact mr M ⟨M.bel,90,by decide,rfl⟩
 have bc:=ar;have bb:=av;simp only[gF,Ob,decide_eq_true_eq]at bc bb;obtain⟨nn,an⟩:∃nn:Nat,u.n=(nn:Int):=⟨u.n.toNat,by omega⟩
 obtain⟨dn,al⟩:∃dn:Nat,u.d=(dn:Int):=⟨u.d.toNat,by omega⟩
 rw[an]at bc;rw[al]at bb;replace an:=MY an;replace al:=MY al;haveI:∀As [Old As w],aB prog 33 #[.int .i64 u.n,.int .i64 u.d] As (.tuple #[.agg (rtC (lowR false nn dn)).toArray,.int .i64 0]):=fun As _=>⟨fun W M=>by
  rw[an.out,al.out];exact ej nn dn W (by omega) (by omega) (by omega) (hT.below M.bel)⟩
 have bh:(lowR false nn dn).ok:=dq (by have:=fE;omega) (by have:=fE;omega) (by omega);have hi:idxI (fun v=>decide (v.name=u.of)) x=match x.findIdx? fun v=>decide (v.name=u.of)with|some j=>(j:Int)|none=> -1:=rfl
 cases hf:x.findIdx? fun v=>decide (v.name=u.of)
 case none=>
  rw[hf]at hi;simp only at hi;haveI:∀As i i' T [Has As ob [.slice Ax mx cx] T i] [cH As (.slice Ax mx cx) 103 8 (x.map aW) i'],aB prog 146 #[.string u.of,.pointer ob] As (.int .i64 (-1)):=fun As i i' T _ _=>by
   have:=meant_con (As:=As) (bx:=ob) (xv:= .slice Ax mx cx) (x:=x) (s:=u.of);rwa[hi]at this
  go_wp2_with refine mz M fun M=>?_;rw[ac.out (by unfold resU;rw[if_neg (by simp[em]),if_pos (by rw[ar,av];rfl),hf])];exact mr M ⟨M.bel,110,by decide,rfl⟩
 rename_i j;rw[hf]at hi;simp only at hi;obtain⟨v0,ba⟩:=gx (l:=x) (i:=j) (OF.1 hf).1;have aA:=sL _ _ _ (by simp) HX.1 v0 (Oc ba);have hs:=FE (x:=x) (k:=k) (u:=u) em ar av hf ba;rw[show u.n.toNat=nn by have:=an.out;omega,show u.d.toNat=dn by have:=al.out;omega]at hs;have hv:Hid ((0:Int)<=(j:Int)/\(x.map aW)[((j:Int)).toNat]? = some [.string v0.name,.string v0.of,.int .i64 v0.n,.int .i64 v0.d,.int .i64 v0.base,.bool v0.neg,.string v0.sn,.string v0.sd]):=⟨by omega,by rw[NI,Ou,ba];rfl⟩
 have t2:decide ((j:Int)<0)=false:=by simp
 haveI bk:∀As b i T [Has As b [.bool v0.neg,.string v0.sn,.string v0.sd,.bool (lowR false nn dn).neg,.string (bs (lowR false nn dn).n),.string (bs (lowR false nn dn).d)] T i] [Old As w],aB prog 150 #[.slice (some ⟨b,0,none⟩) 2 2,.agg (rtC r1).toArray,.func (.func 15) #[] #[]] As (calcV (scaleR v0 nn dn)):=fun As b i T hh _=>⟨fun W M=>by
  rw[<-ag.out];have:=xu (.slice b 2 2) [v0.rt,lowR false nn dn] aq W (RowC.of_blk (M.blk hh) ([v0.rt,lowR false nn dn].map aS) (by simp[aS,aC.rt];exact⟨aA.2.2.2.1,aA.2.2.2.2⟩) (k:=3) (by simp[aS]) rfl 2 (No _)) (by intro a ha;simp only[Og,Oh,or_false]at ha;rcases ha with rfl|rfl;exact aA.1;exact bh) jz (by simp) (hT.below M.bel);rwa[FG]at this⟩
 generalize lowR false nn dn=rr at *;haveI:∀As i i' T [Has As ob [.slice Ax mx cx] T i] [cH As (.slice Ax mx cx) 103 8 (x.map aW) i'],aB prog 146 #[.string u.of,.pointer ob] As (.int .i64 (j:Int)):=fun As i i' T _ _=>by
  have:=meant_con (As:=As) (bx:=ob) (xv:= .slice Ax mx cx) (x:=x) (s:=u.of);rwa[hi]at this
 cases so:scaleR v0 nn dn;all_goals
  rw[so]at hs
  go_wp2_with refine mz M fun M=>?_
  refine mg M [0,1,2,3,4,5,1006,7] fun _ M=>?_
  repeat(first|refine sz M fun M=>?_|refine sj M fun M=>?_|refine sv M fun M=>?_|refine sp M fun M=>?_|refine sQ ?_)
  try refine aj ?_
  go_wp2_with(first|refine mz M fun M=>?_|refine mp M fun M=>?_|refine mv M fun M=>?_)
 ·rw[ac.out hs];exact mr M ⟨M.bel,2,by decide,rfl⟩
 ·have:=ad.out _ hs;go_roundw
  case rel=>exact⟨k+1,_,_,by omega,by go_num,this,by rw[N9];exact M.dr 4⟩
  case measure=>simp[intOf];omega
end
section
def gG(w:World)(p:Prop)(e:Ending)(w':World):Prop:=eB w w'/\∃k:Int,e=.returned (.int .i64 k)/\(k=0<->p)
def xH(v)(L:List aC)(w)(hL:RowC w 8 v (L.map aW))(hl:L.length<=1048576)(hT:Tab w):Calls prog 55 #[v] w (gG w (bI L)):=by
 have HR:=MY (xG v L w hL hl hT);have ab:=MY hL;obtain⟨A,c,rfl,_,_⟩:=hL;rw[N6]at HR ab⊢;obtain⟨o,ho⟩:=nm (eF L);have HO:=MY ho;rw[ho]at HR;unfold xD at HR
 cases o with
 |none=>
  have ao:¬bI L:=by unfold bI;rw[HO.out];simp
  have al:=MY ao
  go_enter func55,ntmps55
  go_wp2_with fail
  refine HR.mono ?_
  rintro e w1 ⟨ac,k,hk,rfl⟩
  have B1:=MY ac
  have HK:=MY hk
  have t1:(k != 0)=true:=by simpa using hk
  go_wp2
  go_ret
  exact⟨B1.out,k,rfl,fun h=>absurd h HK.out,fun h=>absurd h al.out⟩
 |some x=>
  have ar:x.length<=1048576:=by
   have h:=HO.out;unfold eF at h;split at h
   ·split at h
    ·cases h
    ·have:=xq L [] x h;simp at this;omega
   ·cases h
  have HP:Hid (bI L<->x=L):=by show _<->_;unfold bI;rw[HO.out];simp
  go_enter func55,ntmps55
  go_wp2_with fail
  refine HR.mono ?_
  rintro e w1 ⟨ac,xv,rfl,ad⟩
  have B1:=MY ac
  have HE:=MY (EqT.out (fn:=83) xv (.slice A L.length c) x L w1 ⟨ad.row,ar⟩ ⟨ab.below ac,hl⟩)
  obtain⟨t,ht⟩:=nm (eqB x L)
  rw[ht]at HE
  have ag:=MY ht
  cases t
  all_goals
   go_wp2_with fail
   refine HE.mono ?_
   rintro e w2 ⟨rfl,an⟩
   have B2:=MY (B1.trans (an.mono B1.size))
   go_wp2
   go_ret
   first
    |exact⟨B2.out,90,rfl,fun h=>absurd h (by decide),fun h=>absurd (eZ (HP.1 h)) (by rw[ag.out];decide)⟩
    |exact⟨B2.out,0,rfl,fun _=>HP.2 (ko.1 ag.out),fun _=>rfl⟩
def aC.good.cell{u:aC}(h:u.good):(.string u.sn:Value)=.string (bs u.rt.n)/\(.string u.sd:Value)=.string (bs u.rt.d):=⟨by rw[<-h.2.2.2.1],by rw[<-h.2.2.2.2]⟩
attribute [local simp] calcV
def FH(vl)(L:List aC)(f t:Nat)(u v)(r:Rt)(w)(hL:RowC w 8 vl (L.map aW))(ab:bI L)(hu:L[f]? = some u)(hv:L[t]? = some v)(hb:v.base=u.base)(hr:r.ok)(hT:Tab w) :Calls prog 34 #[vl,.int .i64 (f:Int),.int .i64 (t:Int),bA r] w (Ret w (calcV ((mulR r u.rt).bind fun x=>divR x v.rt))):=by
 show Calls _ _ #[_,_,_,.agg (rtC r).toArray] _ _;have gu:=ab.good u (Oc hu);have gv:=ab.good v (Oc hv);have hf:=(NQ.1 hu).1;have ht:=(NQ.1 hv).1;have ad:=ab.len;haveI:ah w vl aC 8 L aW:=⟨hL,by omega⟩
 haveI c0:∀As [Old As w],Con prog 55 #[vl] As (.int .i64 0) As:=fun As _=> .ret fun W M=>
  (xH vl L W (hL.below M.bel) (by omega) (hT.below M.bel)).mono fun e w' h=>⟨by obtain⟨_,k,he,hk⟩:=h;rw[he,hk.2 ab],h.1⟩
 haveI c1:∀As [Old As w],Con prog 15 #[.agg (rtC r).toArray,.agg #[.bool u.neg,.string u.sn,.string u.sd]] As (calcV (mulR r u.rt)) As:=fun As _=> .ret fun W M=>by
  rw[gu.cell.1,gu.cell.2];exact jA r u.rt W hr gu.1 (hT.below M.bel)
 haveI c2:∀(q:Rt) [hq:Fct q.ok] As [Old As w],Con prog 16 #[.agg (rtC q).toArray,.agg #[.bool v.neg,.string v.sn,.string v.sd]] As (calcV (divR q v.rt)) As:=fun q hq As _=> .ret fun W M=>by
  rw[gv.cell.1,gv.cell.2];exact pC q v.rt W hq.out gv.1 gv.2.2.1 (hT.below M.bel)
 have g2:decide (L.length<=f)=false:=by simp;omega
 have g4:decide (L.length<=t)=false:=by simp;omega
 have M:=Sep.new w;have ac:=fun q (h:mulR r u.rt=some q)=>fB h hr.2.2.1 gu.1.2.2.1
 cases hm:mulR r u.rt
 case' some q=>
  haveI:=Fct.mk (ac q hm)
  cases hd:divR q v.rt
 all_goals
  go_enter func34,ntmps34
  go_wp2_with refine mz M fun M=>?_
  refine mg M [0,1,2,3,4,5,6,7,8,9,10,11,12,13,14,15,16,17,18,19,20,21,22,23,24,25,26,27,28,29,30] fun _ M=>?_
  repeat(first|refine sz M fun M=>?_|refine sj M fun M=>?_|refine sv M fun M=>?_|refine sp M fun M=>?_|refine sQ ?_)
  try refine aj ?_
  go_wp2_with refine mz M fun M=>?_
  refine mg1 M 0 [0,1,2,3,4,5,1006,7,8,9,1010,11] fun _ M=>?_
  repeat(first|refine sz M fun M=>?_|refine sj M fun M=>?_|refine sv M fun M=>?_|refine sp M fun M=>?_|refine sQ ?_)
  try refine aj ?_
  go_wp2_with refine mz M fun M=>?_
  try
   refine mg1 M 0 [1,2,3,4,5,1000,1006,7,8,1009,10] fun _ M=>?_
   repeat(first|refine sz M fun M=>?_|refine sj M fun M=>?_|refine sv M fun M=>?_|refine sp M fun M=>?_|refine sQ ?_)
   try refine aj ?_
   go_wp2_with refine mz M fun M=>?_
  refine mr M ⟨?_,M.bel⟩
  simp[*]
  try rfl
end
section
def cS(s:SrcR):Value:= .agg #[s.uv,s.iv,s.pv,s.mv,s.ov,s.fv,s.rv,s.sv]
def xI(a:aw):Value:= .agg #[.int .i64 a.n,.int .i64 a.d,.string a.unit,.string a.item,.bool a.back,.int .i64 a.unitNo,.int .i64 a.itemNo]
def ap.slices{w}{s}(h:ap w s):∃A1 A2 A3 A4 A5 A6 A7 A8 c1 c2 c3 c4 c5 c6 c7 c8,s.uv=.slice A1 s.units.length c1/\s.iv=.slice A2 s.items.length c2/\s.pv=.slice A3 s.plants.length c3/\s.mv=.slice A4 s.machs.length c4/\ s.ov=.slice A5 s.opts.length c5/\s.fv=.slice A6 s.forbs.length c6/\s.rv=.slice A7 s.recs.length c7/\s.sv=.slice A8 s.swaps.length c8:=by
 obtain⟨A1,c1,e1⟩:=h.units.len;obtain⟨A2,c2,e2⟩:=h.items.len;obtain⟨A3,c3,e3⟩:=h.plants.len;obtain⟨A4,c4,e4⟩:=h.machs.len;obtain⟨A5,c5,e5⟩:=h.opts.len;obtain⟨A6,c6,e6⟩:=h.forbs.len;obtain⟨A7,c7,e7⟩:=h.recs.len;obtain⟨A8,c8,e8⟩:=h.swaps.len;rw[N6]at e1 e2 e3 e4 e5 e6 e7 e8;exact⟨_,_,_,_,_,_,_,_,_,_,_,_,_,_,_,_,e1,e2,e3,e4,e5,e6,e7,e8⟩
def nB{s}{a:aw}(h:bM s a=true):∃(ii uu iu nn dn:Nat)(it:dP) (u v:aC),a.itemNo=ii/\s.items[ii]? = some it/\it.unitNo=iu/\s.units[iu]? = some v/\a.unitNo=uu/\s.units[uu]? = some u/\v.base=u.base/\ a.n=nn/\a.d=dn/\1<=nn/\nn<=1048576/\1<=dn/\dn<=1048576:=by
 unfold bM at h;simp only[Ob]at h;obtain⟨⟨hn,hd⟩,h⟩:=h;simp only[btw,Ob,decide_eq_true_eq]at hn hd;split at h
 ·rename_i b hb;simp only[Ob]at h;obtain⟨hi,h⟩:=h;obtain⟨uu,hu,ao⟩:=pK hi;rw[hu]at h;simp only[NI]at h;split at h
  ·rename_i u ag;unfold baseO at hb;split at hb
   ·rename_i ab;obtain⟨ii,ab,an⟩:=pK ab;rw[ab]at hb;simp only[NI]at hb;split at hb
    ·rename_i it hit;split at hb
     ·rename_i ac;obtain⟨iu,ac,ad⟩:=pK ac;rw[ac]at hb;simp only[NI,Option.map_eq_some_iff]at hb;obtain⟨v,hv,al⟩:=hb;exact⟨ii,uu,iu,a.n.toNat,a.d.toNat,it,u,v,ab,hit,ac,hv,hu,ag,by rw[al];exact(beq_iff_eq.1 h).symm,by omega,by omega,by omega,by omega,by omega,by omega⟩
     ·cases hb
    ·cases hb
   ·cases hb
  ·cases h
 ·cases h
def FI{s:SrcR}{a:aw}{ii uu iu nn dn:Nat}{it}{u v}(h1:a.itemNo=ii)(h2:s.items[ii]? = some it)(h3:it.unitNo=iu)(h4:s.units[iu]? = some v)(h5:a.unitNo=uu)(h6:s.units[uu]? = some u)(h7:v.base=u.base)(h8:a.n=nn)(h9:a.d=dn) :amtR s a=(mulR (lowR false nn dn) u.rt).bind fun x=>divR x v.rt:=by
 unfold amtR;rw[h1,h5,h8,h9];simp only[NI,h2,h3];unfold pO;rw[h6,h4];simp only[h7,if_true]
attribute [local simp] calcV
def sN(s)(a:aw)(w)(hS:ap w s)(hU:bI s.units)(ha:bM s a=true)(hT:Tab w):Calls prog 12 #[cS s,xI a] w (Ret w (calcV (amtR s a))):=by
 show Calls _ _ #[.agg (srcC s).toArray,.agg (aG a).toArray] _ _;obtain⟨ii,uu,iu,nn,dn,it,u,v,h1,h2,h3,h4,h5,h6,h7,h8,h9,an,ao,ad,ag⟩:=nB ha;rw[FI h1 h2 h3 h4 h5 h6 h7 h8 h9];have ac:=(NQ.1 h2).1;have ab:=fE;have al:aZ a.itemNo s.items.length=true:=xp.2 ⟨by omega,by omega⟩;have hit:Hid ((0:Int)<=a.itemNo/\s.items[a.itemNo.toNat]? = some it):=⟨by omega,by rw[h1];exact h2⟩
 haveI:=Fct.mk hS;haveI c1:∀As [Old As w],Con prog 33 #[.int .i64 a.n,.int .i64 a.d] As (.tuple #[.agg (rtC (lowR false nn dn)).toArray,.int .i64 0]) As:=fun As _=>⟨fun W M=>by
  rw[h8,h9];exact(ej nn dn W (by omega) (by omega) (by omega) (hT.below M.bel)).mono fun _ _ ⟨e,hb⟩=>⟨e,M.ext hb⟩⟩
 haveI c2:∀As [Old As w],Con prog 34 #[s.uv,.int .i64 a.unitNo,.int .i64 it.unitNo,.agg (rtC (lowR false nn dn)).toArray] As (calcV ((mulR (lowR false nn dn) u.rt).bind fun x=>divR x v.rt)) As:=fun As _=>⟨fun W M=>by
  rw[h5,h3];exact(FH s.uv s.units uu iu u v _ W (hS.below M.bel).units hU h6 h4 h7 (dq (by omega) (by omega) (by omega)) (hT.below M.bel)).mono fun _ _ ⟨e,hb⟩=>⟨e,M.ext hb⟩⟩
 have M:=Sep.new w;clear h1 h2 h3 h4 h5 h6 h7 h8 h9 ac ab;generalize lowR false nn dn=rr at *;generalize (mulR rr u.rt).bind (fun x=>divR x v.rt)=po at *
 cases po;all_goals
  go_enter func12,ntmps12
  go_wp2_with refine mz M fun M=>?_
  refine mg1 M 0 [0,1,2,3,4,5,6,7,8,9,10,1011,1012,13,14,1015,16] fun _ M=>?_
  repeat(first|refine sz M fun M=>?_|refine sj M fun M=>?_|refine sv M fun M=>?_|refine sp M fun M=>?_|refine sQ ?_)
  try refine aj ?_
  go_wp2_with refine mz M fun M=>?_
  exact mr M ⟨rfl,M.bel⟩
end
def bB(s:SrcR):Bool:=decide (s.opts.length<=6)&&s.opts.all fun o=>decide (1<=o.choices.length)&&decide (o.choices.length<=4)
def gH(c:List Int)(x:aP):Bool:=decide (0<=x.optNo)&&(decide (x.optNo<(c.length:Int))&&(match c[x.optNo.toNat]? with|some z=>decide (z=x.chNo)|none=>false))
def dQ(l:List aP)(c:List Int):Bool:=l.all (gH c)
def dR(s:SrcR)(c:List Int):Bool:= !(s.forbs.any fun f=>dQ f.conds c)
def bf:List OptR->List Int->Bool
 |o::os,x::c=>decide (0<=x)&&(decide (x<(o.choices.length:Int))&&bf os c)
 |[],[]=>true
 |_,_=>false
def cI(s:SrcR)(c:List Int):Bool:=bB s&&(bf s.opts c&&dR s c)
def dx:Nat->Nat->List Int×Nat
 |0,n=>([],n)
 |k+1,n=>((dx k (n/4)).1++[((n%4:Nat):Int)],(dx k (n/4)).2)
def gI(s:SrcR)(n:Int):Option (List Int):=
 if 0<=n/\(dx s.opts.length n.toNat).2=0/\cI s (dx s.opts.length n.toNat).1=true then some (dx s.opts.length n.toNat).1 else none
def dS(item plant day:Int)(c:List Int)(r:RecR):Bool:=decide (r.itemNo=item)&&(decide (r.plantNo=plant)&&(decide (r.frm<=day)&&(decide (day<r.til)&&dQ r.ifs c)))
def bV(s:SrcR)(item plant day:Int)(c:List Int):List Nat:=(List.range s.recs.length).filter fun i=>match s.recs[i]? with|some r=>dS item plant day c r|none=>false
def iV(s:SrcR)(i p:Int):Bool:=s.recs.any fun r=>(aZ r.itemNo s.items.length&&aZ r.plantNo s.plants.length)&&(decide (r.itemNo=i)&&decide (r.plantNo=p))
def kr(s:SrcR)(i p d:Int):Prop:=d=0\/∃r∈s.recs,r.itemNo=i/\r.plantNo=p/\(d=r.frm\/d=r.til)/\0<d/\d<1024
def iW(s:SrcR):Prop:=∀i p d c,iV s i p=true->kr s i p d->cI s c=true->(bV s i p d c).length=1
def FQ{s:SrcR}{i p d d':Int}{c:List Int}(h:∀r∈s.recs,r.itemNo=i->r.plantNo=p->((r.frm<=d/\d<r.til)<->(r.frm<=d'/\d'<r.til))):bV s i p d c=bV s i p d' c:=by
 unfold bV;refine List.filter_congr fun k _=>?_;split
 ·rename_i r hr;have hm:=Oc hr;rw[Bool.eq_iff_iff];simp only[dS,Ob,decide_eq_true_eq];constructor
  ·rintro⟨h1,h2,h3,h4,h5⟩;have:=(h r hm h1 h2).1 ⟨h3,h4⟩;exact⟨h1,h2,this.1,this.2,h5⟩
  ·rintro⟨h1,h2,h3,h4,h5⟩;have:=(h r hm h1 h2).2 ⟨h3,h4⟩;exact⟨h1,h2,this.1,this.2,h5⟩
 ·rfl
def FR(s)(i p:Int)(d:Nat)(hd:d<1024):∃e:Int,kr s i p e/\e<=d/\∀r∈s.recs,r.itemNo=i->r.plantNo=p->((r.frm<=d/\(d:Int)<r.til)<->(r.frm<=e/\e<r.til)):=by
 induction d with
 |zero=>exact⟨0,Or.inl rfl,by omega,fun r _ _ _=>Iff.rfl⟩
 |succ n ih=>
  by_cases hc:kr s i p ((n+1:Nat):Int)
  ·exact⟨_,hc,Int.le_refl _,fun r _ _ _=>Iff.rfl⟩
  ·obtain⟨e,he,ab,hr⟩:=ih (by omega)
   refine⟨e,he,by omega,fun r hm h1 h2=>?_⟩
   rw[<-hr r hm h1 h2]
   have h3:r.frm≠((n+1:Nat):Int):=fun h=>hc (Or.inr ⟨r,hm,h1,h2,Or.inl h.symm,by omega,by omega⟩)
   have h4:r.til≠((n+1:Nat):Int):=fun h=>hc (Or.inr ⟨r,hm,h1,h2,Or.inr h.symm,by omega,by omega⟩)
   omega
def iW.one{s}(h:iW s){i p d:Int}{c:List Int}(hp:iV s i p=true)(h0:0<=d)(h1:d<1024)(hc:cI s c=true):(bV s i p d c).length=1:=by
 obtain⟨e,he,_,hr⟩:=FR s i p d.toNat (by omega);have hd:((d.toNat:Nat):Int)=d:=by omega
 rw[hd]at hr;rw[FQ hr];exact h i p e c hp he hc
def FT{s:SrcR}{i p d:Int}{c:List Int}(h:∀r∈s.recs,¬(r.itemNo=i/\r.plantNo=p)):bV s i p d c=[]:=by
 unfold bV;rw[List.filter_eq_nil_iff];intro k _;split
 ·rename_i r hr;have:=h r (Oc hr);simp only[dS,Ob,decide_eq_true_eq];rintro⟨h1,h2,_⟩;exact this ⟨h1,h2⟩
 ·simp
def nextC:List OptR->List Int->Option (List Int)
 |o::os,x::c=>match nextC os c with
  |some c'=>some (x::c')
  |none=>if x=(o.choices.length:Int)-1 then none else some ((x+1)::os.map fun _=>0)
 |_,_=>none
def iX(os:List OptR):List Int:=os.map fun _=>0
def bC:List OptR->List Int->Nat
 |o::os,x::c=>x.toNat*(os.foldr (fun o n=>o.choices.length*n) 1)+bC os c
 |_,_=>0
def many(os:List OptR):Nat:=os.foldr (fun o n=>o.choices.length*n) 1
def nG{os:List OptR}{c:List Int}(h:bf os c=true):bC os c<many os:=by
 induction os generalizing c with
 |nil=>simp[bC,many]
 |cons o os ih=>
  cases c with
  |nil=>simp[bf]at h
  |cons x c=>
   simp only[bf,Ob,decide_eq_true_eq]at h
   have h1:=ih h.2.2
   have h2:x.toNat+1<=o.choices.length:=by omega
   have h3:=Nd (many os) h2
   rw[Nat.add_mul,Nat.one_mul]at h3
   show x.toNat*many os+bC os c<o.choices.length*many os
   omega
def sW{os:List OptR}(h:∀o∈os,1<=o.choices.length):bf os (iX os)=true:=by
 induction os with
 |nil=>rfl
 |cons o os ih=>
  have:=h o (by simp)
  simp only[iX,NP,bf,Ob,decide_eq_true_eq]
  exact⟨by omega,by omega,ih fun p hp=>h p (by simp[hp])⟩
def pS(os:List OptR):bC os (iX os)=0:=by
 induction os with
 |nil=>rfl
 |cons o os ih=>simp only[iX,NP,bC];simpa[iX]using ih
def xM{os:List OptR}{c:List Int}(h2:nextC os c=none)(hc:bf os c=true)(ab:∀p∈os,1<=p.choices.length):bC os c+1=many os:=by
 induction os generalizing c with
 |nil=>cases c with
  |nil=>simp[bC,many]
  |cons y c=>simp[bf]at hc
 |cons q os ih=>
  cases c with
  |nil=>simp[bf]at hc
  |cons y c=>
   simp only[bf,Ob,decide_eq_true_eq]at hc
   unfold nextC at h2
   split at h2
   ·cases h2
   ·rename_i h5
    split at h2
    ·rename_i h6
     have:=ih h5 hc.2.2 (fun p hp=>ab p (by simp[hp]))
     have h7:=ab q (by simp)
     show y.toNat*many os+bC os c+1=q.choices.length*many os
     have h8:y.toNat+1=q.choices.length:=by omega
     rw[<-h8,Nat.add_mul,Nat.one_mul];omega
    ·cases h2
def xN{os:List OptR}{c c':List Int}(ho:∀o∈os,1<=o.choices.length)(h:bf os c=true)(hn:nextC os c=some c'):bf os c'=true/\bC os c'=bC os c+1:=by
 induction os generalizing c c' with
 |nil=>simp[nextC]at hn
 |cons o os ih=>
  cases c with
  |nil=>simp[bf]at h
  |cons x c=>
   simp only[bf,Ob,decide_eq_true_eq]at h
   unfold nextC at hn
   split at hn
   ·rename_i c2 h2
    cases hn
    have:=ih (fun p hp=>ho p (by simp[hp])) h.2.2 h2
    refine⟨by simp only[bf,Ob,decide_eq_true_eq];exact⟨h.1,h.2.1,this.1⟩,?_⟩
    show x.toNat*many os+bC os c2=x.toNat*many os+bC os c+1
    omega
   ·rename_i h2
    split at hn
    ·cases hn
    ·rename_i hx
     cases hn
     refine⟨?_,?_⟩
     ·simp only[bf,Ob,decide_eq_true_eq]
      exact⟨by omega,by omega,sW fun p hp=>ho p (by simp[hp])⟩
     ·have h3:=pS os
      have h4:bC os c+1=many os:=xM h2 h.2.2 (fun p hp=>ho p (by simp[hp]))
      show(x+1).toNat*many os+bC os (iX os)=x.toNat*many os+bC os c+1
      have h5:(x+1).toNat=x.toNat+1:=by omega
      rw[h3,h5,Nat.add_mul,Nat.one_mul];omega
def xO{os:List OptR}{c c':List Int}(h:bf os c=true)(h':bf os c'=true)(e:bC os c=bC os c'):c=c':=by
 induction os generalizing c c' with
 |nil=>cases c with
  |nil=>cases c' with
   |nil=>rfl
   |cons=>simp[bf]at h'
  |cons=>simp[bf]at h
 |cons o os ih=>
  cases c with
  |nil=>simp[bf]at h
  |cons x c=>cases c' with
   |nil=>simp[bf]at h'
   |cons y c'=>
    simp only[bf,Ob,decide_eq_true_eq]at h h'
    have r1:=nG h.2.2
    have r2:=nG h'.2.2
    have e:x.toNat*many os+bC os c=y.toNat*many os+bC os c':=e
    have d1:(x.toNat*many os+bC os c)/many os=x.toNat:=by rw[M8,Nat.mul_add_div (by omega),Nj r1];rfl
    have d2:(y.toNat*many os+bC os c')/many os=y.toNat:=by rw[M8,Nat.mul_add_div (by omega),Nj r2];rfl
    rw[e,d2]at d1
    rw[d1]at e
    have:bC os c=bC os c':=by omega
    rw[ih h.2.2 h'.2.2 this]
    have:x=y:=by omega
    rw[this]
def fa(s:SrcR):Nat->List Int->List (List Int)
 |0,_=>[]
 |k+1,c=>(if dR s c then [c]else [])++(match nextC s.opts c with|some c'=>fa s k c'|none=>[])
def fd(s:SrcR):List (List Int):=fa s (many s.opts) (iX s.opts)
def xP{s:SrcR}(ho:∀o∈s.opts,1<=o.choices.length):∀(k:Nat)(c:List Int),bf s.opts c=true->bC s.opts c+k=many s.opts->∀x,x∈fa s k c<->(bf s.opts x=true/\dR s x=true/\bC s.opts c<=bC s.opts x)
 |0,c,hc,hk,x=>by
  have h1:=nG hc;omega
 |k+1,c,hc,hk,x=>by
  have ab:dR s c=true/\x=c<->x∈(if dR s c then [c]else []):=by
   by_cases hp:dR s c=true
   ·simp[hp]
   ·simp[hp]
  unfold fa;rw[Of,<-ab]
  cases hn:nextC s.opts c with
  |some c'=>
   have:=xN ho hc hn
   simp only
   rw[xP ho k c' this.1 (by omega) x]
   constructor
   ·rintro(⟨h1,rfl⟩|⟨h1,h2,h3⟩)
    ·exact⟨hc,h1,No _⟩
    ·exact⟨h1,h2,by omega⟩
   ·rintro⟨h1,h2,h3⟩
    by_cases e:bC s.opts c=bC s.opts x
    ·have:=xO hc h1 e;subst this;exact Or.inl ⟨h2,rfl⟩
    ·exact Or.inr ⟨h1,h2,by omega⟩
  |none=>
   have hl:=xM hn hc ho
   simp only[Oh,or_false]
   constructor
   ·rintro⟨h1,rfl⟩;exact⟨hc,h1,No _⟩
   ·rintro⟨h1,h2,h3⟩
    have:=nG h1
    have:=xO hc h1 (by omega);subst this;exact⟨h2,rfl⟩
def pT{s}(hv:bB s=true)(x:List Int):x∈fd s<->cI s x=true:=by
 have ho:∀o∈s.opts,1<=o.choices.length:=by
  simp only[bB,Ob,Od,decide_eq_true_eq]at hv;exact fun o h=>(hv.2 o h).1
 unfold fd;rw[xP ho _ _ (sW ho) (by rw[pS];omega) x,pS];simp[cI,hv]
def FU{α:Type}{p:α->Bool}{L:List α}{k:Nat}{x:α}(hx:L[k]? = some x):(L.take (k+1)).all p=((L.take k).all p&&p x):=by rw[Ox,hx,List.all_append];simp
def xQ{α:Type}{p:α->Bool}{L:List α}{k:Nat}{x:α}(h:(L.take k).all p=true)(hx:L[k]? = some x)(hp:p x=true):(L.take (k+1)).all p=true:=by rw[FU hx,h,hp];rfl
def xR{α:Type}{p:α->Bool}{L:List α}{k:Nat}{x:α}(hx:L[k]? = some x)(hp:p x=false):L.all p=false:=by
 rw[List.all_eq_false];exact⟨x,Oc hx,by simp[hp]⟩
def xS{α:Type}{p:α->Bool}{l:List α}{k:Nat}{x:α}(h:l[k]? = some x)(hp:p x=false):l.all p=false:=List.all_eq_false.2 ⟨x,Oc h,by simp[hp]⟩
def xT{α:Type}{p:α->Bool}{l:List α}{k:Nat}{x:α}(h:l[k]? = some x)(hs:(l.take k).all p=true)(hp:p x=true):(l.take (k+1)).all p=true:=by
 rw[Ox,h,List.all_append];simp[hs,hp]
def FV{c:List Int}{x:aP}(h:x.optNo<0):gH c x=false:=by unfold gH;rw[decide_eq_false (by omega)];rfl
def FW{c:List Int}{x:aP}(h:(c.length:Int)<=x.optNo):gH c x=false:=by unfold gH;rw[decide_eq_false (p:=x.optNo<_) (by omega)];simp
def FX{c:List Int}{x:aP}{z:Int}(hz:c[x.optNo.toNat]? = some z)(h:¬z=x.chNo):gH c x=false:=by simp[gH,hz,h]
instance hold_c{As:List Asn}{w0:World}{v cv:Value}{L:List aP}{c:List Int}[Old As w0][hx:ah w0 v aP 4 L aT][hc:ah w0 cv Int 1 c af]:Con prog 30 #[v,cv] As (.bool (dQ L c)) As:=⟨fun w M=>by
 obtain⟨n,hn⟩:=nm L.length;obtain⟨m,hm⟩:=nm c.length;have hl:=hx.le;rw[hn]at hl;go_enter func30,ntmps30;go_wp2_with refine mz M fun M=>?_;go_loopw [9] (fun z W=>∃k:Nat,k<=n/\z=.int .i64 k/\M.w0 W/\Hid ((L.take k).all (gH c)=true)) (fun z _=>n-(intOf z).toNat)
 case atStart=>exact⟨0,by omega,rfl,M,rfl⟩
 obtain⟨k,hk,rfl,M,hs⟩:=hrel;replace M:Sep _ _:=M;by_cases ac:k<n
 case neg=>
  obtain rfl:n=k:=by omega
  go_wp2_with refine mz M fun M=>?_;go_ret;exact⟨by have:=hs.out;rw[Ny (by omega)]at this;unfold dQ;rw[this];rfl,M⟩
 obtain⟨x,ab⟩:=gx (l:=L) (i:=k)
 cases c1:decide (x.optNo<0)
 case' false=>
  cases c2:decide ((m:Int)<=x.optNo)
  case' false=>
   have hr:0<=x.optNo/\x.optNo<m:=by simp at c1 c2;omega
   obtain⟨z,hz⟩:=gx (l:=c) (i:=x.optNo.toNat);have hz':Hid (0<=x.optNo/\c[x.optNo.toNat]? = some z):=⟨by omega,hz⟩
   replace hr:=MY hr
   cases c3:z==x.chNo
 all_goals
  go_wp2_with refine mz M fun M=>?_
  refine mg M [0,1,2,3,4,5,6,7,8,9,10,11,12,13,14,15,16,17,18,19] fun _ M=>?_
  repeat(first|refine sz M fun M=>?_|refine sj M fun M=>?_|refine sv M fun M=>?_|refine sp M fun M=>?_|refine sQ ?_)
  try refine aj ?_
  go_wp2_with refine mz M fun M=>?_
 rotate_left
 ·go_roundw
  case rel=>exact⟨k+1,by omega,by go_num,M.dr 1,xT ab hs.out (by have:=hr.out;simp at c3;simp[gH,hz,c3];omega)⟩
  case measure=>simp[intOf];omega
 all_goals
  go_ret
  exact⟨by rw[dQ,xS ab (by first|exact FX hz (by simpa using c3)|exact FW (by rw[hm];simpa using c2)|exact FV (by simpa using c1))];rfl,M.dr 1⟩⟩
def ak(w)(o:Obj):eB w (w.alloc o):=(NB _ _).alloc (No _) o
theorem FY{w}{x:OptR}(h:ah w x.cv ByteArray 1 x.choices bF):Fct (((bX x).all fun v=>v.oneCell')=true):=⟨by obtain⟨_,_,h⟩:=h.sl;unfold bX;rw[h];rfl⟩
def ixF(L:List ForbR)(c:List Int):Int:=match L.findIdx? fun f=>dQ f.conds c with|some k=>(k:Int)|none=> -1
section
variable {As:List Asn} {w0:World} {s:SrcR} {v cv:Value} {c:List Int} {L:List ForbR} {b i:Nat}
instance oValid_c[Old As w0][hS:Fct (ap w0 s)]:Con prog 28 #[.agg (srcC s).toArray] As (.bool (bB s)) As:=⟨fun w M=>by
 have hl:=hS.1.ol;unfold BIG at hl;obtain⟨n,hn⟩:=nm s.opts.length;rw[hn]at hl;by_cases h6:n<=6
 case neg=>
  have t1:decide ((6:Int)<(n:Int))=true:=by simp;omega
  go_enter func28,ntmps28;go_wp2_with refine mz M fun M=>?_;go_ret;exact⟨by unfold bB;rw[hn,decide_eq_false h6];rfl,M.dr 1⟩
 have t1:decide ((6:Int)<(n:Int))=false:=by simp;omega
 go_enter func28,ntmps28;go_wp2_with refine mz M fun M=>?_;go_loopw [12] (fun z W=>∃k:Nat,k<=n/\z=.int .i64 k/\M.w0 W/\Hid ((s.opts.take k).all (fun o=>decide (1<=o.choices.length)&&decide (o.choices.length<=4))=true)) (fun z _=>n-(intOf z).toNat)
 case atStart=>exact⟨0,by omega,rfl,M,rfl⟩
 obtain⟨k,hk,rfl,M,hs⟩:=hrel;replace M:Sep _ _:=M;by_cases ab:k<n
 case neg=>
  obtain rfl:n=k:=by omega
  go_wp2_with refine mz M fun M=>?_;go_ret;exact⟨by have:=hs.out;rw[Ny (by omega)]at this;unfold bB;rw[hn,decide_eq_true h6,this];rfl,M.dr 1⟩
 obtain⟨x,hx⟩:=gx (l:=s.opts) (i:=k);haveI:ah w0 x.cv ByteArray 1 x.choices bF:=let h:=hS.1.opt x (Oc hx);⟨h.1,h.2⟩;haveI:=FY this;obtain⟨m,hm⟩:=nm x.choices.length
 cases c1:decide ((m:Int)<1)
 case' false=>cases c2:decide ((4:Int)<(m:Int))
 all_goals
  go_wp2_with refine mz M fun M=>?_
 ·go_roundw
  case rel=>exact⟨k+1,by omega,by go_num,M.dr 1,xT hx hs.out (by simp at c1 c2;rw[hm];simp;omega)⟩
  case measure=>simp[intOf];omega
 all_goals
  go_ret
  exact⟨by unfold bB;rw[xS hx (by rw[hm];first|(simp at c1 c2;simp;omega)|(simp at c1;simp;omega))];simp,M.dr 2⟩⟩
instance perm1_c{l:List aP}[Old As w0][ah w0 v aP 4 l aT][ah w0 cv Int 1 c af][Has As b [cv] 32 i]:Con prog 101 #[v,.pointer b] As (.bool (dQ l c)) As:=⟨fun w M=>by
 go_enter func101,ntmps101;go_wp2_with refine mz M fun M=>?_;go_ret;exact⟨rfl,M⟩⟩
instance index_c[Old As w0][hv:ah w0 v ForbR 1 L gc][hL:Fct (∀f∈L,RowC w0 4 f.cv (f.conds.map aT)/\f.conds.length<=1048576)][ah w0 cv Int 1 c af][Has As b [cv] 32 i]:Con prog 142 #[v,.func (.func 101) #[] #[.pointer b]] As (.int .i64 (ixF L c)) As:=⟨fun w M=>by
 have hl:=hv.le;obtain⟨n,hn⟩:=nm L.length;rw[hn]at hl;go_enter func142,ntmps142;go_wp2_with refine mz M fun M=>?_;go_loopw [8] (fun z W=>∃k:Nat,k<=n/\z=.int .i64 k/\M.w0 W/\Hid (∀j x,j<k->L[j]? = some x->dQ x.conds c=false)) (fun z _=>n-(intOf z).toNat)
 case atStart=>exact⟨0,by omega,rfl,M,fun j x h=>absurd h (Nat.not_lt_zero _)⟩
 obtain⟨k,hk,rfl,M,hs⟩:=hrel;replace M:Sep _ _:=M;by_cases ad:k<n
 case neg=>
  obtain rfl:n=k:=by omega
  go_wp2_with refine mz M fun M=>?_;go_ret;refine⟨?_,M⟩;unfold ixF;rw[List.findIdx?_eq_none_iff.2 fun x hx=>?_]
  ·rfl
  ·obtain⟨j,hj,e⟩:=List.getElem_of_mem hx;exact hs.out j x (by omega) (by rw[Nx hj,e])
 obtain⟨x,hx⟩:=gx (l:=L) (i:=k);haveI:ah w0 x.cv aP 4 x.conds aT:=let h:=hL.out x (Oc hx);⟨h.1,h.2⟩
 cases e:dQ x.conds c
 case false=>
  go_wp2_with refine mz M fun M=>?_
  ·rename_i h;rw[e]at h
   cases h
  go_roundw
  case rel=>exact⟨k+1,by omega,by go_num,M,fun j y hj hy=>if h:j=k then by subst h;rw[hx]at hy;cases hy;exact e else hs.out j y (by omega) hy⟩
  case measure=>simp[intOf];omega
 go_wp2_with refine mz M fun M=>?_;rotate_left
 ·rename_i h;rw[e]at h
  cases h
 go_ret;refine⟨?_,M⟩;obtain⟨ab,ac⟩:=NQ.1 hx;unfold ixF;rw[OF.2 ⟨ab,by rw[ac];exact e,fun j hj=>by rw[hs.out j _ hj (Nx (by omega))];decide⟩];rfl⟩
instance perm_c[Old As w0][hS:Fct (ap w0 s)][hc:ah w0 cv Int 1 c af]:Con prog 50 #[.agg (srcC s).toArray,cv] As (.bool (dR s c)) As:=⟨fun w M=>by
 obtain⟨A,k,rfl⟩:=hc.sl;haveI:Fct (∀f∈s.forbs,RowC w0 4 f.cv (f.conds.map aT)/\f.conds.length<=1048576):=⟨hS.1.forb⟩
 have ab:=mF;have hp:decide (0<=ixF s.forbs c) = !dR s c:=by
  unfold ixF dR
  cases h:s.forbs.findIdx? fun f=>dQ f.conds c with
  |none=>have:=List.findIdx?_eq_none_iff.1 h;rw[show(s.forbs.any fun f=>dQ f.conds c)=false from List.any_eq_false.2 fun x hx=>by simp[this x hx]];rfl
  |some k=>
   obtain⟨hk,e,_⟩:=OF.1 h
   rw[show(s.forbs.any fun f=>dQ f.conds c)=true from List.any_eq_true.2 ⟨_,OG hk,e⟩]
   simp
 go_enter func50,ntmps50;go_wp2_with(first|(go_at_call 100;go_in)|refine mz M fun M=>?_);go_ret;exact⟨by simp[hp],M.dr 2⟩⟩
def sX(s)(w)(hS:ap w s):Calls prog 28 #[cS s] w (Ret w (.bool (bB s))):=by
 haveI:=Fct.mk hS;exact(oValid_c.out w (Sep.new w)).mono fun _ _ h=>⟨h.1,h.2.bel⟩
def FZ(s)(cv)(c:List Int)(w)(hS:ap w s)(hc:RowC w 1 cv (c.map af))(ab:c.length<=1048576):Calls prog 50 #[cS s,cv] w (Ret w (.bool (dR s c))):=by
 haveI:=Fct.mk hS;haveI:ah w cv Int 1 c af:=⟨hc,ab⟩
 exact(perm_c.out w (Sep.new w)).mono fun _ _ h=>⟨h.1,h.2.bel⟩
end
def iY:∀{os:List OptR} {c:List Int},bf os c=true<->c.length=os.length/\∀(k:Nat)(o:OptR) (x:Int),os[k]? = some o->c[k]? = some x->0<=x/\x<(o.choices.length:Int)
 |[],[]=>by simp[bf]
 |[],_::_=>by simp[bf]
 |_::_,[]=>by simp[bf]
 |o::os,x::c=>by
  simp only[bf,Ob,decide_eq_true_eq,M6];rw[iY (os:=os) (c:=c)];constructor
  ·rintro⟨h1,h2,h3,h4⟩;refine⟨by omega,fun k o' x' ho hx=>?_⟩
   cases k with
   |zero=>simp only[Oj,Option.some.injEq]at ho hx;subst ho;subst hx;exact⟨h1,h2⟩
   |succ k=>exact h4 k o' x' (by simpa using ho) (by simpa using hx)
  ·rintro⟨h1,h2⟩;have h0:=h2 0 o x rfl rfl;exact⟨h0.1,h0.2,by omega,fun k o' x' ho hx=>h2 (k+1) o' x' (by simpa using ho) (by simpa using hx)⟩
section
instance valid_c{As:List Asn}{w0:World}{s:SrcR}{cv:Value}{c:List Int}[Old As w0][hS:Fct (ap w0 s)][hc:ah w0 cv Int 1 c af]:Con prog 29 #[.agg (srcC s).toArray,cv] As (.bool (cI s c)) As:=⟨fun w M=>by
 obtain⟨n,hn⟩:=nm c.length;obtain⟨m,hm⟩:=nm s.opts.length;have hl:=hc.le;rw[hn]at hl
 cases c1:bB s
 case false=>
  go_enter func29,ntmps29;go_wp2_with refine mz M fun M=>?_;go_ret;exact⟨by simp[cI,c1],M.dr 1⟩
 by_cases c2:n=m
 case neg=>
  have t:((n:Int) != (m:Int))=true:=by simpa using fun h:(n:Int)=m=>c2 (by omega)
  go_enter func29,ntmps29;go_wp2_with refine mz M fun M=>?_;go_ret;exact⟨by rw[cI,Bool.eq_false_iff.2 fun h:bf _ _=true=>by have:=(iY.1 h).1;omega];simp,M.dr 1⟩
 subst c2;go_enter func29,ntmps29;go_wp2_with refine mz M fun M=>?_;go_loopw [20] (fun z W=>∃k:Nat,k<=n/\z=.int .i64 k/\M.w0 W/\Hid (∀j o x,j<k->s.opts[j]? = some o->c[j]? = some x->0<=x/\x<(o.choices.length:Int))) (fun z _=>n-(intOf z).toNat)
 case atStart=>exact⟨0,by omega,rfl,M,fun j _ _ h=>absurd h (Nat.not_lt_zero _)⟩
 obtain⟨k,hk,rfl,M,hs⟩:=hrel;replace M:Sep _ _:=M;by_cases ac:k<n
 case neg=>
  obtain rfl:n=k:=by omega
  go_wp2_with refine mz M fun M=>?_;go_ret;exact⟨by rw[cI,c1,iY.2 ⟨by omega,fun j o x ho hx=>hs.out j o x (by have:=(NQ.1 hx).1;omega) ho hx⟩];simp,M.dr 1⟩
 obtain⟨x,hx⟩:=gx (l:=c) (i:=k);obtain⟨o,ho⟩:=gx (l:=s.opts) (i:=k);haveI:ah w0 o.cv ByteArray 1 o.choices bF:=let h:=hS.1.opt o (Oc ho);⟨h.1,h.2⟩
 cases d1:decide (x<0)
 case' false=>cases d2:decide ((o.choices.length:Int)<=x)
 all_goals
  go_wp2_with refine mz M fun M=>?_
 ·go_roundw
  case rel=>exact⟨k+1,by omega,by go_num,M,fun j o' x' hj ab hx'=>if h:j=k then by subst h;rw[ho]at ab;rw[hx]at hx';cases ab;cases hx';simp at d1 d2;omega else hs.out j o' x' (by omega) ab hx'⟩
  case measure=>simp[intOf];omega
 all_goals
  go_ret
  exact⟨by rw[cI,Bool.eq_false_iff.2 fun h:bf _ _=true=>by have:=(iY.1 h).2 k o x ho hx;first|(simp at d1 d2;omega)|(simp at d1;omega)];simp,M.dr 1⟩⟩
def F0(s)(cv)(c:List Int)(w)(hS:ap w s)(hc:RowC w 1 cv (c.map af))(ab:c.length<=1048576):Calls prog 29 #[cS s,cv] w (Ret w (.bool (cI s c))):=by
 haveI:=Fct.mk hS;haveI:ah w cv Int 1 c af:=⟨hc,ab⟩
 exact(valid_c.out w (Sep.new w)).mono fun _ _ h=>⟨h.1,h.2.bel⟩
end
def jG:bE prog 32 3 1 8:=bE.mk' (z:= .int .i64 0) underlying32 (by kernel_rfl) (by decide)
def iZ(s:SrcR)(item plant day:Int)(c:List Int)(k:Nat):List Nat:=(List.range k).filter fun i=>match s.recs[i]? with|some r=>dS item plant day c r|none=>false
def F5{s:SrcR}{item plant day:Int}{c:List Int}{k:Nat}{r}(hr:s.recs[k]? = some r)(h:dS item plant day c r=true):iZ s item plant day c (k+1)=iZ s item plant day c k++[k]:=by
 unfold iZ;rw[List.range_succ,List.filter_append];simp[hr,h]
def F6{s:SrcR}{item plant day:Int}{c:List Int}{k:Nat}{r}(hr:s.recs[k]? = some r)(h:dS item plant day c r=false):iZ s item plant day c (k+1)=iZ s item plant day c k:=by
 unfold iZ;rw[List.range_succ,List.filter_append];simp[hr,h]
def pW(i:Nat):List Value:=[.int .i64 (i:Int)]
def xU(w:World)(o:Option (List Nat))(e:Ending)(w':World):Prop:=
 eB w w'/\match o with
  |some l=>∃v,e=.returned (.tuple #[v,.int .i64 0])/\aa w' w.heap.size 3 1 v (l.map pW)
  |none=>e=.returned (.tuple #[.slice none 0 0,.int .i64 130])
def nI(s:SrcR)(item plant day:Int)(c:List Int):Option (List Nat):=if cI s c then some (bV s item plant day c)else none
def xV{item plant day:Int}{c:List Int}{r}:dS item plant day c r=((r.itemNo==item)&&((r.plantNo==plant)&&(decide (r.frm<=day)&&(decide (day<r.til)&&dQ r.ifs c)))):=by
 unfold dS;congr 1
def xW(s)(item plant day:Int)(cv)(c:List Int)(w)(hS:ap w s)(hc:RowC w 1 cv (c.map af))(ab:c.length<=1048576):Calls prog 10 #[cS s,.int .i64 item,.int .i64 plant,.int .i64 day,cv] w (xU w (nI s item plant day c)):=by
 show Calls _ _ #[.agg (srcC s).toArray,_,_,_,_] _ _;haveI:=Fct.mk hS;haveI:ah w cv Int 1 c af:=⟨hc,ab⟩
 have hl:=hS.rl;unfold BIG at hl;obtain⟨n,hn⟩:=nm s.recs.length;rw[hn]at hl;have M:=(Sep.new w).nilR 3 1
 cases hv:cI s c
 case false=>
  go_enter func10,ntmps10;go_wp2_with refine mz M fun M=>?_;go_ret2;exact⟨M.bel,by simp[nI,hv]⟩
 go_enter func10,ntmps10;go_wp2_with refine mz M fun M=>?_;go_loopw [10,21] (fun v z W=>∃k:Nat,k<=n/\z=.int .i64 k/\M.r1 1 v ((iZ s item plant day c k).map pW) W) (fun _ z _=>n-(intOf z).toNat)
 case atStart=>exact⟨0,by omega,rfl,M⟩
 obtain⟨k,hk,rfl,M⟩:=hrel;simp only[Sep.r1,upR]at M;by_cases ac:k<n
 case neg=>
  obtain rfl:n=k:=by omega
  go_wp2_with refine mz M fun M=>?_;go_ret2;refine⟨M.bel,?_⟩;unfold nI bV;rw[if_pos hv,hn];exact⟨_,rfl,M.own1⟩
 obtain⟨r,hr⟩:=gx (l:=s.recs) (i:=k);haveI:=Fct.mk (hS.recv r (Oc hr));haveI:=nH (w:=w) (r:=r);have hL:((iZ s item plant day c k).map pW).length<=16777216:=by
  rw[N6];have:=List.length_filter_le (fun i=>match s.recs[i]? with|some r=>dS item plant day c r|none=>false) (List.range k);rw[N7]at this;unfold iZ;omega
 cases c1:r.itemNo==item
 case' true=>
  cases c2:r.plantNo==plant
  case' true=>
   cases c3:decide (r.frm<=day)
   case' true=>
    cases c4:decide (day<r.til)
    case' true=>cases c5:dQ r.ifs c
 all_goals
  go_wp2_with(first|refine mz M fun M=>?_|refine mp M fun M=>?_|refine mv M fun M=>?_)
 all_goals
  go_roundw
  case rel=>
   first
   |exact⟨k+1,by omega,by go_num,by rw[F6 hr (by rw[xV];simp only[*,Np,Bool.false_and])];exact M.dr 1⟩
   |exact⟨k+1,by omega,by go_num,by rw[F5 hr (by rw[xV];simp only[*,Np]),N9];exact M.dr 2⟩
  case measure=>simp[intOf];omega
def mxL(l:List Nat):Nat:=l.foldl max 0
def F8(l:List Nat)(x:Nat):mxL (l++[x])=max (mxL l) x:=by simp[mxL]
def xX(c:Nat):∀(l:List Nat)(m:Nat),l.foldl max m<=c<->(m<=c/\∀x∈l,x<=c)
 |[],m=>by simp
 |a::l,m=>by
  rw[List.foldl_cons,xX c l];simp only[Og,forall_eq_or_imp];constructor
  ·rintro⟨h1,h2⟩;exact⟨by omega,by omega,h2⟩
  ·rintro⟨h1,h2,h3⟩;exact⟨by omega,h3⟩
def F9(l:List Nat)(c:Nat):decide (mxL l<=c)=l.all (fun x=>decide (x<=c)):=by
 rw[Bool.eq_iff_iff];simp[mxL,xX]
def aQ.slices'{w}{r}(h:aQ w r):∃A1 A2 A3 A4 c1 c2 c3 c4 n1 n2 n3 n4,r.ifv=.slice A1 n1 c1/\r.inv=.slice A2 n2 c2/\r.outv=.slice A3 n3 c3/\r.runv=.slice A4 n4 c4/\r.ins.length=n2/\r.outs.length=n3:=by
 obtain⟨A1,c1,e1⟩:=h.ifs.len;obtain⟨A2,c2,e2⟩:=h.ins.len;obtain⟨A3,c3,e3⟩:=h.outs.len;obtain⟨A4,c4,e4⟩:=h.runs.len;rw[N6]at e2 e3;exact⟨_,_,_,_,_,_,_,_,_,_,_,_,e1,e2,e3,e4,rfl,rfl⟩
def mxT{α:Type}(f:α->Nat)(l:List α)(k:Nat):Nat:=mxL ((l.take k).map f)
def sZ{α:Type}(f:α->Nat){l:List α}{k:Nat}{x:α}(h:l[k]? = some x):mxT f l (k+1)=max (mxT f l k) (f x):=by
 unfold mxT;rw[Ox,h,N9,Option.toList_some,NP,List.map_nil,F8]
def s4(a b:Nat):Value.int .i64 (max (a:Int) (b:Int))=.int .i64 ((max a b:Nat):Int):=by congr 1;omega
def xY{P:Program}{ops}{rest}{op:Oper}{a:Act}{w}{Q}(T)(ab:Array (Nat×Operand))(ho:op.op=.build T ab)(ac:op.guard=none)(ps:List (Nat×Operand))(hp:ab.toList=ps)(vs:List (Nat×Value))(hv:ps.map (fun p=>(p.1,a.eval p.2))=vs)(cells)(hb:P.built T vs=some cells)(h:wpList P ops Q rest (a.put op.dst (.agg cells)) w):wpList P ops Q (op::rest) a w:=by
 refine wpList_buildTo ac T ab ho op.dst rfl cells ?_ h;rw[Array.toList_map,hp,<-hb,<-hv]
def pX{P:Program}{ops}{rest}{op:Oper}{a:Act}{w}{Q}(T)(o1 o2)(ho:op.op=.build T #[(0,o1),(1,o2)])(ab:op.guard=none)(x y)(hx:a.eval o1=x)(hy:a.eval o2=y)(cells)(hb:P.built T [(0,x),(1,y)]=some cells)(h:wpList P ops Q rest (a.put op.dst (.agg cells)) w):wpList P ops Q (op::rest) a w:=by
 subst hx hy;exact xY T _ ho ab _ rfl _ rfl cells hb h
def xZ{P}{ops}{rest}{op:Oper}{a:Act}{w}{Q}(T)(x y)(ho:op.op=.index T x y)(ab:op.guard=none)(v i r)(hx:a.eval x=v)(hy:a.eval y=i)(hr:(Instr.index T v i).run P w=.ok r w)(h:wpList P ops Q rest (a.put op.dst r) w):wpList P ops Q (op::rest) a w:=by
 refine Go.Great.wpList_runTo ab op.dst rfl r w ?_ h;unfold execOp;simp only[ho,hx,hy,NM,hr,NO,NN]
def ya(x y:Int):prog.built 288 [(0,.int .i64 x),(1,.int .i64 y)]=some #[.int .i64 x,.int .i64 y]:=by kernel_rfl
def Ga(x0 x1 x2 x3 x4 x5 x6 x7 x8 x9:Int):prog.built 289 [(0,.agg #[.int .i64 x0,.int .i64 32]),(1,.agg #[.int .i64 x1,.int .i64 8]),(2,.agg #[.int .i64 x2,.int .i64 16]),(3,.agg #[.int .i64 x3,.int .i64 6]),(4,.agg #[.int .i64 x4,.int .i64 4]),(5,.agg #[.int .i64 x5,.int .i64 16]),(6,.agg #[.int .i64 x6,.int .i64 64]),(7,.agg #[.int .i64 x7,.int .i64 8]),(8,.agg #[.int .i64 x8,.int .i64 8]),(9,.agg #[.int .i64 x9,.int .i64 64])]=some #[.int .i64 x0,.int .i64 32,.int .i64 x1,.int .i64 8,.int .i64 x2,.int .i64 16,.int .i64 x3,.int .i64 6,.int .i64 x4,.int .i64 4,.int .i64 x5,.int .i64 16,.int .i64 x6,.int .i64 64,.int .i64 x7,.int .i64 8,.int .i64 x8,.int .i64 8,.int .i64 x9,.int .i64 64]:=by kernel_rfl
def Gb(W)(x0 x1 x2 x3 x4 x5 x6 x7 x8 x9:Int)(j:Nat)(p:Int×Int)(h:[(x0,32),(x1,8),(x2,16),(x3,6),(x4,4),(x5,16),(x6,64),(x7,8),(x8,8),(x9,64)][j]? = some p):(Instr.index 289 (.agg #[.int .i64 x0,.int .i64 32,.int .i64 x1,.int .i64 8,.int .i64 x2,.int .i64 16,.int .i64 x3,.int .i64 6,.int .i64 x4,.int .i64 4,.int .i64 x5,.int .i64 16,.int .i64 x6,.int .i64 64,.int .i64 x7,.int .i64 8,.int .i64 x8,.int .i64 8,.int .i64 x9,.int .i64 64]) (.int .i64 j)).run prog W=.ok (.agg #[.int .i64 p.1,.int .i64 p.2]) W:=by
 rcases j with _|_|_|_|_|_|_|_|_|_|j <;> first|(cases h;kernel_rfl)|(simp at h)
def jH(s:SrcR):List (Nat×Nat):=[(s.items.length,32),(s.plants.length,8),(s.machs.length,16),(s.opts.length,6),(mxT (fun o=>o.choices.length) s.opts s.opts.length,4),(s.forbs.length,16),(s.recs.length,64),(mxT (fun r=>r.ins.length) s.recs s.recs.length,8),(mxT (fun r=>r.outs.length) s.recs s.recs.length,8),(s.swaps.length,64)]
def Gd(s):(jH s).all (fun p=>decide (p.1<=p.2))=dG s:=by
 simp only[jH,dG,mxT,OK,List.all_cons,List.all_nil,F9,List.all_map,Bool.and_true,Function.comp_def]
def yc(s:SrcR):List Value:=((jH s).map fun p=>[.int .i64 p.1,.int .i64 p.2]).flatten
def Gf(s)(j:Nat)(p:Nat×Nat)(W)(h:(jH s)[j]? = some p):(Instr.index 289 (.agg (yc s).toArray) (.int .i64 j)).run prog W=.ok (.agg #[.int .i64 p.1,.int .i64 p.2]) W:=by
 refine Gb W _ _ _ _ _ _ _ _ _ _ j ((p.1:Int),(p.2:Int)) ?_;have e:((jH s).map (fun q=>((q.1:Int),(q.2:Int))))[j]? = some ((p.1:Int),(p.2:Int)):=by rw[Ou,h];rfl
 exact e
def Gg(s)(w)(hS:ap w s):Calls prog 120 #[.agg (srcC s).toArray] w (Ret w (.bool (dG s))):=by
 haveI:=Fct.mk hS;have M:=Sep.new w;have ar:=hS.ol;have av:=hS.rl;unfold BIG at ar av;have ab:=MY (Gd s);have ao:=MY (Gf s);have ad:Hid ((jH s).length=10):=rfl;obtain⟨res,al⟩:=nm (dG s);rw[al]at ab⊢;clear al;go_enter func120,ntmps120;go_wp2_with refine mz M fun M=>?_;go_loopw [3,15] (fun m i W=>∃k:Nat,k<=s.opts.length/\i=.int .i64 k/\m=.int .i64 (mxT (fun o=>o.choices.length) s.opts k:Nat)/\M.w0 W) (fun _ i _=>s.opts.length-(intOf i).toNat)
 case atStart=>exact⟨0,Nu _,rfl,rfl,M⟩
 obtain⟨k,hk,rfl,rfl,M⟩:=hrel;simp only[Sep.w0]at M;by_cases ag:k<s.opts.length
 ·obtain⟨x,hx⟩:=gx (l:=s.opts) (i:=k) ag;haveI:ah w x.cv ByteArray 1 x.choices bF:=⟨(hS.opt x (Oc hx)).1,(hS.opt x (Oc hx)).2⟩
  haveI:=pU this;have hm:=sZ (fun o:OptR=>o.choices.length) hx;generalize mxT (fun o=>o.choices.length) s.opts k=m0 at *;replace hm:=MY hm;go_wp2_with refine mz M fun M=>?_;go_roundw
  case rel=>exact⟨k+1,by omega,by go_num,by rw[hm.out,s4],M.dr 1⟩
  case measure=>simp[intOf];omega
 obtain rfl:k=s.opts.length:=by omega
 go_wp2_with refine mz M fun M=>?_;go_loopw [4,5,28] (fun m u i W=>∃k:Nat,k<=s.recs.length/\i=.int .i64 k/\m=.int .i64 (mxT (fun r=>r.ins.length) s.recs k:Nat)/\u=.int .i64 (mxT (fun r=>r.outs.length) s.recs k:Nat)/\M.w0 W) (fun _ _ i _=>s.recs.length-(intOf i).toNat)
 case atStart=>exact⟨0,Nu _,rfl,rfl,rfl,M⟩
 obtain⟨k,hk,rfl,rfl,rfl,M⟩:=hrel;simp only[Sep.w0]at M;by_cases ag:k<s.recs.length
 ·obtain⟨x,hx⟩:=gx (l:=s.recs) (i:=k) ag;haveI:=Fct.mk (hS.recv x (Oc hx));haveI:=nH (w:=w) (r:=x);have hm:=sZ (fun o:RecR=>o.ins.length) hx;have hu:=sZ (fun o:RecR=>o.outs.length) hx;generalize mxT (fun o=>o.ins.length) s.recs k=m0 at *;generalize mxT (fun o=>o.outs.length) s.recs k=m1 at *;replace hm:=MY hm;replace hu:=MY hu;go_wp2_with refine mz M fun M=>?_;refine mg M [0,1,2,3,4,5,6,7,8,9,10,11] fun _ M=>?_;repeat(first|refine sz M fun M=>?_|refine sj M fun M=>?_|refine sv M fun M=>?_|refine sp M fun M=>?_|refine sQ ?_)
  try refine aj ?_
  go_wp2_with refine mz M fun M=>?_;go_roundw
  case rel=>exact⟨k+1,by omega,by go_num,by rw[hm.out,s4],by rw[hu.out,s4],M.dr 1⟩
  case measure=>simp[intOf];omega
 obtain rfl:k=s.recs.length:=by omega
 go_wp2_with(first|(first|(refine mk (yc s) ?_ (hb:=Ga _ _ _ _ _ _ _ _ _ _))|(refine mk [.int .i64 _,.int .i64 _] ?_ (hb:=ya _ _)))|refine mz M fun M=>?_);go_loopw [78] (fun i W=>∃k:Nat,k<=10/\i=.int .i64 k/\Hid (((jH s).take k).all (fun p=>decide (p.1<=p.2))=true)/\M.w0 W) (fun i _=>10-(intOf i).toNat)
 case atStart=>exact⟨0,by omega,rfl,rfl,M⟩
 obtain⟨k,hk,rfl,ac,M⟩:=hrel;simp only[Sep.w0]at M;by_cases ag:k<10
 ·obtain⟨p,hp⟩:=gx (l:=jH s) (i:=k) (by rw[ad.out];exact ag);have hx:=fun W=>ao.out k p W hp;replace hp:=MY hp;by_cases an:p.1<=p.2;all_goals
   go_wp2_with(first|(refine xZ 289 _ _ rfl rfl _ _ _ rfl rfl (hx _) ?_)|refine mz M fun M=>?_)
  ·go_roundw
   case rel=>exact⟨k+1,by omega,by go_num,(by show _=true;exact xQ ac.out hp.out (by simpa using an)),M.dr 1⟩
   case measure=>simp[intOf];omega
  refine mr M ⟨?_,M.bel⟩;rw[<-ab.out,xR hp.out (by simpa using an)];rfl
 obtain rfl:k=10:=by omega
 go_wp2_with refine mz M fun M=>?_;refine mr M ⟨?_,M.bel⟩;have:=ac.out;rw[Ny (by rw[ad.out];exact No _),ab.out]at this;rw[this];rfl
instance{As:List Asn}{w0:World}{s:SrcR}[Old As w0][hS:Fct (ap w0 s)]:Con prog 120 #[.agg (srcC s).toArray] As (.bool (dG s)) As:= .ret fun W M=>Gg s W (hS.1.below M.bel)
def nJ(s)(w)(hS:ap w s)(hT:Tab w):Calls prog 71 #[.agg (srcC s).toArray] w (gG w (TypesOk s)):=by
 have M:=Sep.new w;haveI:=Fct.mk hS;go_enter func71,ntmps71;go_wp2_with refine mz M fun M=>?_;refine(xH s.uv s.units _ (hS.below M.bel).units hS.ul (hT.below M.bel)).mono ?_;rintro e w1 ⟨ab,k,rfl,hk⟩;replace M:=M.ext ab;by_cases h0:k=0
 case neg=>
  have g1:(k != 0)=true:=by simpa using h0
  go_wp2_with refine mz M fun M=>?_;go_ret;exact⟨M.bel,k,rfl,fun h=>absurd h h0,fun h=>absurd (hk.2 h.1) h0⟩
 subst h0;replace hk:=MY (hk.1 rfl);have g1:((0:Int) != 0)=false:=rfl
 cases hw:dG s
 case false=>
  go_wp2_with refine mz M fun M=>?_;go_ret;exact⟨M.bel,2,rfl,fun h=>(by cases h),fun h=>by have:=h.2.1;rw[hw]at this;cases this⟩
 cases hs:fF s;all_goals
  go_wp2_with(first|(refine mk (aX s true) ?_)|refine mz M fun M=>?_)
  go_ret
 ·exact⟨M.bel,120,rfl,fun h=>(by cases h),fun h=>by have:=h.2.2;rw[hs]at this;cases this⟩
 ·exact⟨M.bel,0,rfl,fun _=>⟨hk.out,hw,hs⟩,fun _=>rfl⟩
section
variable {s:SrcR} {As:List Asn} {w0:World}
instance{x:aw}[Old As w0][hT:Fct (Tab w0)][hS:Fct (ap w0 s)][hU:Fct (bI s.units)][hx:Fct (bM s x=true)]:aB prog 12 #[.agg (srcC s).toArray,.agg (aG x).toArray] As (calcV (amtR s x)):=⟨fun W M=>sN s x W (hS.1.below M.bel) hU.out hx.out (hT.1.below M.bel)⟩
end
def s9:(prog.info? 3).map (fun i=>(i.zero,i.size,i.bytes))=some (some (.int .i64 0),1,8):=by kernel_rfl
def ye(n:Nat)(hn:n<=1048576)(w):(Instr.makeSlice 32 (.int .i64 (n:Int)) (.int .i64 (n:Int))).run prog w=.ok (.slice w.heap.size n n) (w.alloc (.cells (List.replicate n (Value.int .i64 0)).toArray 3)):=by
 rw[<-wn];exact run_make_row' 32 3 (.int .i64 0) 8 underlying32 s9 rfl .i64 .i64 n (by omega) (by omega) w
def Gi(k n:Nat):(dx k n).1.length=k:=by
 induction k generalizing n with
 |zero=>rfl
 |succ k ih=>simp[dx,ih]
def bY(z:Int):Value:= .int .i64 z
def Gj(j:Nat)(a v:Value)(l:List Value):(List.replicate (j+1) a++l).set j v=List.replicate j a++v::l:=by
 rw[List.replicate_succ',OL,Oy _ _ (by simp)];simp
def yf(c:List Int):(c.map af).flatten=c.map bY:=by
 induction c with
 |nil=>rfl
 |cons a c ih=>simp only[NP,List.flatten_cons,ih];rfl
def Gk(w:World)(o:Option (List Int))(e:Ending)(w':World):Prop:=
 eB w w'/\match o with
  |some c=>∃v,e=.returned (.tuple #[v,.int .i64 0])/\RowC w' 1 v (c.map af)
  |none=>e=.returned (.tuple #[.slice none 0 0,.int .i64 130])
structure CSt(w:World)(cs:List Value)(b m n0 k N:Nat)(suf:List Int)(W:World):Prop where
 len:suf.length+k=m
 dig:dx m n0=((dx k N).1++suf,(dx k N).2)
 row:Blk W b (List.replicate k (.int .i64 0)++suf.map bY) 3
 box:Blk W w.heap.size cs 31
 hb:w.heap.size<b
 below:eB w W
def CSt.next{w}{cs}{b m n0 j N:Nat}{suf:List Int}{W}(h:CSt w cs b m n0 (j+1) N suf W):CSt w cs b m n0 j (N/4) (((N%4:Nat):Int)::suf) (W.setCell ⟨b,j,none⟩ (.int .i64 ((N%4:Nat):Int))):=by
 refine⟨by have:=h.len;simp only[M6];omega,?_,?_,h.box.other (by have:=h.hb;omega) _,h.hb,h.below.setCell (by have:=h.hb;show _<=b;omega) _⟩
 ·rw[h.dig];simp[dx]
 ·have:=h.row.set j (.int .i64 ((N%4:Nat):Int));rw[Gj]at this;exact this
def ta(s)(n:Int)(w)(hS:ap w s)(bd:n<=9223372036854775807):Calls prog 9 #[cS s,.int .i64 n] w (Gk w (gI s n)):=by
 have HV:=MY (fun W (hW:eB w W)=>sX s W (hS.below hW));have ar:=MY (fun W (hW:eB w W) (c:List Int) (cv:Value) (hc:RowC W 1 cv (c.map af)) (hl:c.length<=1048576)=>F0 s cv c W (hS.below hW) hc hl);obtain⟨A,cap,ev,ag,h⟩:=hS.opts;have hl:=hS.ol;unfold BIG at hl;rw[N6]at ag ev;obtain⟨m,hm⟩:=nm s.opts.length;have HM:=MY hm;rw[hm]at hl ag ev;obtain⟨res,al⟩:=nm (gI s n);have HR:=MY al;rw[al];obtain⟨ov,ax⟩:=nm (bB s);have bb:=MY ax;rw[ax]at HV;unfold cS at *;rw[ev]at HV ar⊢;have bk:=ye m hl
 cases ov with
 |false=>
  have E:Hid (res=none):=by show _=_;rw[<-HR.out];unfold gI;rw[if_neg];rintro⟨_,_,h⟩;unfold cI at h;rw[bb.out]at h;cases h
  go_enter func9,ntmps9
  go_wp2_with fail
  refine(HV.out _ (ak _ _)).mono ?_
  rintro e w1 ⟨rfl,ab⟩
  have B1:=MY ((ak w _).trans (ab.mono (by simp)))
  go_wp2
  go_ret2
  rw[E.out]
  exact⟨B1.out,rfl⟩
 |true=>
 by_cases av:n<0
 ·have E:Hid (res=none):=by show _=_;rw[<-HR.out];unfold gI;rw[if_neg];rintro⟨h,_⟩;omega
  have g1:decide (n<0)=true:=by simpa using av
  go_enter func9,ntmps9;go_wp2_with fail;refine(HV.out _ (ak _ _)).mono ?_;rintro e w1 ⟨rfl,ab⟩;have B1:=MY ((ak w _).trans (ab.mono (by simp)));go_wp2;go_ret2;rw[E.out];exact⟨B1.out,rfl⟩
 have g1:decide (n<0)=false:=by simpa using av
 obtain⟨n0,rfl⟩:∃n0:Nat,n=(n0:Int):=⟨n.toNat,by omega⟩
 have ac:Hid (res=if(dx m n0).2=0/\cI s (dx m n0).1=true then some (dx m n0).1 else none):=by
  show _=_;rw[<-HR.out];unfold gI;rw[NI,HM.out];by_cases hc:(dx m n0).2=0/\cI s (dx m n0).1=true
  ·rw[if_pos ⟨by omega,hc.1,hc.2⟩,if_pos hc]
  ·rw[if_neg (fun h=>hc h.2),if_neg hc]
 go_enter func9,ntmps9;go_wp2_with fail;refine(HV.out _ (ak _ _)).mono ?_;rintro e w1 ⟨rfl,ab⟩;have B1:=MY ((ak w (.cells #[s.uv,s.iv,s.pv,s.mv,.slice A m cap,s.fv,s.rv,s.sv] 31)).trans (ab.mono (by simp)));have Y1:=MY ((Blk.new w [s.uv,s.iv,s.pv,s.mv,.slice A m cap,s.fv,s.rv,s.sv] 31).below ab (by simp));have y4:=(Y1.at 4 _ rfl).1;go_wp2_with fail;go_loopw [1,6] (fun t i W=>∃(k N:Nat)(z:Int) (suf:List Int),t=.int .i64 (N:Int)/\N<=9223372036854775807/\i=.int .i64 z/\Hid (z=(k:Int)-1)/\Hid (CSt w [s.uv,s.iv,s.pv,s.mv,.slice A m cap,s.fv,s.rv,s.sv] w1.heap.size m n0 k N suf W)) (fun _ i _=>(intOf i+1).toNat)
 case atStart=>
  refine⟨m,n0,_,[],rfl,by omega,rfl,?_,⟨by simp,by simp,?_,Y1.alloc _,Y1.lt,B1.alloc B1.size _⟩⟩
  ·show _=_;trivial
  ·have:=Blk.new w1 (List.replicate m (Value.int .i64 0)) 3;simpa using this
 case round=>
  obtain⟨k,N,z,suf,rfl,hN,rfl,HZ,C⟩:=hrel;obtain⟨y0,y1,y2,y3,y4,y5,y6,y7⟩:=pa C.box;have be:(0:Int)<=(N:Int):=by omega
  have bg:(N:Int)<=9223372036854775807:=by omega
  cases k with
  |zero=>
   have hz:z<0:=by have:=HZ.out;omega
   have g2:decide (0<=z)=false:=by simpa using hz
   have HD:Hid (dx m n0=(suf,N)):=by show _=_;have:=C.dig;simpa[dx]using this
   have aA:suf.length=m:=by have:=C.len;omega
   have ad:=MY (RowC.of_blk C.row (suf.map af) (by rw[yf];simp) (k:=1) (by simp[af]) (n:=m) (by simp[aA]) m (No _))
   have bc:=MY aA
   by_cases ao:N=0
   ·subst ao
    have g3:((0:Int) != 0)=false:=rfl
    obtain⟨vb,ba⟩:=nm (cI s suf)
    have HC:=MY (ar.out _ C.below suf _ ad.out (by rw[bc.out];exact hl))
    rw[ba]at HC
    have E:Hid (res=if vb=true then some suf else none):=by
     show _=_;rw[ac.out,HD.out];simp only[ba,true_and]
    cases vb with
    |true=>
     go_wp2_with fail
     refine HC.mono ?_
     rintro e w2 ⟨rfl,an⟩
     have B2:=MY (C.below.trans (an.mono C.below.size))
     have R2:=MY (ad.below an)
     go_wp2
     go_ret2
     rw[E.out]
     exact⟨B2.out,_,rfl,R2.out⟩
    |false=>
     go_wp2_with fail
     refine HC.mono ?_
     rintro e w2 ⟨rfl,an⟩
     have B2:=MY (C.below.trans (an.mono C.below.size))
     go_wp2
     go_ret2
     rw[E.out]
     exact⟨B2.out,rfl⟩
   ·have g3:((N:Int) != 0)=true:=by simpa using ao
    have E:Hid (res=none):=by show _=_;rw[ac.out,HD.out,if_neg];rintro⟨h,_⟩;exact ao h
    go_wp2
    go_ret2
    rw[E.out]
    exact⟨C.below,rfl⟩
  |succ j=>
   obtain rfl:z=(j:Int):=by have:=HZ.out;omega
   have bh:(0:Int)<=(j:Int):=by omega
   have bi:(j:Int)<(m:Int):=by have:=C.len;omega
   have g2:decide ((0:Int)<=(j:Int))=true:=by simp
   obtain⟨q0,f0⟩:=C.row.at j (.int .i64 0) (by rw[N4 (by simp)];simp)
   have CN:=MY C.next
   go_wp2
   go_roundw
   case rel=>
    have e:Value.int .i64 ((N:Int)%4)=Value.int .i64 ((N%4:Nat):Int):=by congr 1
    rw[e]
    exact⟨j,N/4,(j:Int)-1,((N%4:Nat):Int)::suf,(by congr 1),by omega,rfl,rfl,CN⟩
   case measure=>simp[intOf]
def gK(M:List (List Value))(k:Nat)(hk:∀x∈M,x.length=k):M.flatten.length=M.length*k:=by
 induction M with
 |nil=>simp
 |cons a M ih=>rw[List.flatten_cons,Oe,ih fun x hx=>hk x (by simp[hx]),hk a (by simp),M6,Nat.add_mul];omega
def RowC.reads{w}{k m c:Nat}{A}{M:List (List Value)}(h:RowC w k (.slice A m c) M)(hk:∀x∈M,x.length=k)(h0:0<k):bj w w.heap.size k A m M.flatten:=by
 obtain⟨A',cap,e,hc,h⟩:=h
 cases e;refine⟨gK M k hk,fun hm=>?_⟩;obtain⟨x0,al⟩:∃x,M[0]? = some x:=⟨M[0],Nx hm⟩
 obtain⟨b,off,rfl,ad,_⟩:=h 0 x0 al;refine⟨_,rfl,ad,fun j u hu=>?_⟩;have ac:j<M.length*k:=by rw[<-gK M k hk];exact(NQ.1 hu).1
 have hi:j/k<M.length:=(Nl h0).2 ac;obtain⟨x,hx⟩:∃x,M[j/k]? = some x:=⟨M[j/k],Nx hi⟩
 have hj:j/k*k+j%k=j:=Nat.div_add_mod' j k;have ag:x[j%k]? = some u:=by rw[<-j7 M k hk (j/k) (j%k) x hx (Ni _ h0),hj];exact hu
 obtain⟨b',an,e,_,ab⟩:=h _ x hx
 cases e;have:=ab _ _ ag;rw[Nat.add_assoc,hj]at this;have e:(⟨b,off,none⟩:Addr).add j=⟨b,off+j,none⟩:=by unfold Addr.add;split <;> simp_all
 rw[e];exact this
def ku{P}{ops}{rest}{o:Oper}{a:Act}{w}{Q}{t e}{k bytes:Nat}(hI:bE P t e k bytes)(ao:o.guard=none)(s x)(ho:o.op=.call {callee:= .builtin .append,args:=#[s,x],argTypes:=#[t,t]})(B:Nat)(v)(L:List (List Value))(hs:a.eval s=v)(ac:aa w B e k v L)(A)(m c:Nat)(M:List (List Value))(hx:a.eval x=.slice A m c)(hr:RowC w k (.slice A m c) M)(hl:∀y∈M,y.length=k)(h1:∀y∈M,∀u∈y,u.oneCell'=true)(ar:L.length+M.length<=16777216)(ab:B<=w.heap.size)(h:∀v' w',aa w' B e k v' (L++M)->w.grownBy w' v.ownBlock->(v'.ownBlock=v.ownBlock\/v'.ownBlock=some w.heap.size)->wpList P ops Q rest (a.put o.dst v') w'):wpList P ops Q (o::rest) a w:=by
 refine wpList_plain ao fun _ hK=>?_;obtain⟨i,z,ht,hi,hz,ad,an,av,hk,ag⟩:=hI;have hm:m=M.length:=by obtain⟨_,_,e,_⟩:=hr;injection e
 have al:(L.length+m)*bytes<=140737488355328:=Nv (Nat.mul_le_mul (show L.length+m<=16777217 by omega) ag) (by omega);refine jY w s x t ho B e i z k bytes ht hi hz ad an av hk v L.length L.flatten hs ac.1 w.heap.size A m c M.flatten hx (hr.reads hl hk) (fun u hu=>?_) (by unfold maxLen;omega) al ab (fun v' w' h2 h3 h4=>hK _ _ (h v' w' ⟨?_,?_⟩ h3 h4))
 ·obtain⟨y,hy,hu⟩:=List.mem_flatten.1 hu;exact h1 y hy u hu
 ·rw[Oe,List.flatten_append,<-hm];exact h2
 ·intro c hc;rcases Of.1 hc with hc|hc
  ·exact ac.2 c hc
  ·exact hl c hc
def aa.empty(w:World)(B:Nat)(T)(k:Nat)(hB:B<=w.heap.size):aa (w.alloc (.cells #[] T)) B T k (.slice w.heap.size 0 0) []:=
 ⟨⟨by simp,.inr ⟨_,0,#[],rfl,hB,N8 w _,No _,Nu _,by simp,by simp⟩⟩,by simp⟩
def Gl(p:Addr)(m c:Nat)(W):(binOp .eql 32 (.slice (some p) m c) (.slice none 0 0)).run prog W=.ok (.bool false) W:=by kernel_rfl
def yi(p:Addr)(m k:Nat)(c:List Int)(w)(hc:RowC w 1 (.slice (some p) m k) (c.map af))(ab:c.length<=1048576):Calls prog 195 #[.slice (some p) m k] w fun e w'=>eB w w'/\∃v,e=.returned v/\aa w' w.heap.size 3 1 v (c.map af):=by
 have hq:=Gl p m k;have H1:=MY (aa.empty w w.heap.size 3 1 (No _));have H2:=MY (hc.below ((NB _ w).alloc (No _) (.cells #[] 3)));have HB:=MY ((NB w.heap.size w).alloc (No _) (.cells #[] 3));clear hc;go_enter func195,ntmps195;go_wp2_with (at_builtin;(refine ku jG rfl (.tmp 5) (.tmp 6) rfl w.heap.size (.slice w.heap.size 0 0) [] rfl H1.out (some p) m k (c.map af) rfl H2.out (fun y hy=>by obtain⟨z,_,rfl⟩:=List.mem_map.1 hy;rfl) (fun y hy u hu=>by obtain⟨z,_,rfl⟩:=List.mem_map.1 hy;simp only[af,Oi]at hu;subst hu;rfl) (by simp;omega) (by simp) ?_);intro v' w' ho hg _;have HO:=MY ho;have HG:=MY hg;clear ho hg);go_ret;refine⟨?_,_,rfl,HO.out⟩;exact j8 HB.out H1.out HG.out (No _) (by simp)
def Gm{os:List OptR}{c:List Int}{o:OptR}{x:Int}(h:nextC os c=none)(hx:x=(o.choices.length:Int)-1):nextC (o::os) (x::c)=none:=by
 simp only[nextC,h,hx,if_pos]
def yj:∀(ab:List OptR)(c1:List Int) {os:List OptR} {c:List Int} {o:OptR} {x:Int},ab.length=c1.length->nextC os c=none->x≠(o.choices.length:Int)-1->nextC (ab++o::os) (c1++x::c)=some (c1++(x+1)::os.map fun _=>0)
 |[],[],os,c,o,x,_,h,hx=>by simp only[M9,nextC,h,if_neg hx]
 |p::ab,y::c1,os,c,o,x,hl,h,hx=>by
  have:=yj ab c1 (by simpa using hl) h hx;simp only[MZ,nextC,this]
 |[],_::_,_,_,_,_,hl,_,_=>by simp at hl
 |_::_,[],_,_,_,_,hl,_,_=>by simp at hl
def Gn{os:List OptR}{c:List Int}{j:Nat}{o}{x:Int}(ho:os[j]? = some o)(hx:c[j]? = some x)(h:nextC (os.drop (j+1)) (c.drop (j+1))=none)(he:x=(o.choices.length:Int)-1):nextC (os.drop j) (c.drop j)=none:=by
 obtain⟨hj,rfl⟩:=NQ.1 ho;obtain⟨hk,rfl⟩:=NQ.1 hx;rw[List.drop_eq_getElem_cons hj,List.drop_eq_getElem_cons hk];exact Gm h he
def Gr{os:List OptR}{c:List Int}{j:Nat}{o}{x:Int}(hl:os.length=c.length)(ho:os[j]? = some o)(hx:c[j]? = some x)(h:nextC (os.drop (j+1)) (c.drop (j+1))=none)(he:x≠(o.choices.length:Int)-1):nextC os c=some (c.take j++(x+1)::List.replicate (os.length-(j+1)) 0):=by
 obtain⟨hj,rfl⟩:=NQ.1 ho;obtain⟨hk,rfl⟩:=NQ.1 hx;have e1:os=os.take j++os[j]::os.drop (j+1):=by rw[<-List.drop_eq_getElem_cons hj,List.take_append_drop]
 have e2:c=c.take j++c[j]::c.drop (j+1):=by rw[<-List.drop_eq_getElem_cons hk,List.take_append_drop]
 have:=yj (os.take j) (c.take j) (by rw[Nz,Nz,hl]) h he;rw[<-e1,<-e2]at this;rw[this,List.map_const',List.length_drop]
def Gs{s}{k:Nat}{c:List Int}(h:dR s c=true):fa s (k+1) c=c::(match nextC s.opts c with|some c'=>fa s k c'|none=>[]):=by
 rw[fa,if_pos h];rfl
def Gt{s}{k:Nat}{c:List Int}(h:dR s c=false):fa s (k+1) c=(match nextC s.opts c with|some c'=>fa s k c'|none=>[]):=by
 rw[fa,if_neg (by rw[h];simp)];rfl
def ym:∀(os:List OptR),(∀o∈os,o.choices.length<=4)->many os<=4^os.length
 |[],_=>by simp[many]
 |o::os,h=>by
  have:=ym os fun p hp=>h p (by simp[hp]);have h4:=h o (by simp);show o.choices.length*many os<=_;rw[M6,M7,M8];exact Nat.mul_le_mul this h4
def tc{s}(h:bB s=true):many s.opts<=4096:=by
 simp only[bB,Ob,Od,decide_eq_true_eq]at h;exact Nv (ym _ fun o ho=>(h.2 o ho).2) (Ng (by omega) h.1)
def Gu{s}(h:bB s=true):∀o∈s.opts,1<=o.choices.length:=by
 simp only[bB,Ob,Od,decide_eq_true_eq]at h;exact fun o ho=>(h.2 o ho).1
def yp(s):∀(k:Nat)(c:List Int),(fa s k c).length<=k
 |0,_=>No _
 |k+1,c=>by
  rw[fa];have h1:(if dR s c then [c]else []).length<=1:=by split <;> simp
  cases nextC s.opts c with
  |none=>simp;omega
  |some c'=>have:=yp s k c';rw[Oe];simp only;omega
def yq(s):(fd s).length<=many s.opts:=yp _ _ _
def i9(x:RecR):List Int:=[x.frm,x.til,x.reworkN,x.reworkD,x.yieldN,x.yieldD,x.tolN,x.tolD,x.lead,x.itemNo,x.plantNo]
def GL(xs ys:List Int)(hx:xs.length=11)(hy:ys.length=11)(W):(binOp .eql 224 (.agg (xs.map bY).toArray) (.agg (ys.map bY).toArray)).run prog W=.ok (.bool (eqB xs ys)) W:=by
 obtain⟨i,hi⟩:∃i,prog.info? 3=some i:=by
  obtain⟨i,hi,_⟩:=Option.map_eq_some_iff.1 s9;exact⟨i,hi⟩
 have hc:prog.cellsOf 3=1:=by kernel_rfl
 have ab:∀(l:List Int)(j:Nat) (W:World),j<l.length->(part 3 (l.map bY).toArray (j*1)).run prog W=.ok (bY (l[j]!)) W:=by
  intro l j W hj;have ha:∀W,(isAgg 3).run prog W=.ok false W:=fun _=>by kernel_rfl
  simp[part,NM,ha,hj,go_sem,bY]
 have ad:∀(is:List Nat)(W:World),(∀j∈is,j<11)->(Op.eqItems 9999 3 (prog.cellsOf 3) (xs.map bY).toArray (ys.map bY).toArray is).run prog W=.ok (is.all fun j=>xs[j]! ==ys[j]!) W:=by
  intro is;induction is with
  |nil=>intro W _;simp[Op.eqItems]
  |cons j is ih=>
   intro W h
   have hj:=h j (by simp)
   rw[hc]
   simp only[Op.eqItems,NM]
   rw[ab xs j W (by omega)]
   simp only[NO]
   rw[ab ys j W (by omega)]
   simp only[NO,bY]
   rw[run_equalIn_int W 9998 3 .i64 .i64 _ _ underlying3]
   simp only[NO,List.all_cons]
   cases hb:(xs[j]! ==ys[j]!)
   ·simp
   ·simp only[Bool.not_true,Bool.false_eq_true,if_false,Np]
    have:=ih W fun k hk=>h k (by simp[hk])
    rw[hc]at this
    simpa using this
 rw[run_eql_struct];rw[run_equalIn_array W 9999 _ _ underlying224 hi,ad _ W (by simp)];simp only[NO];congr 2;by_cases h:xs=ys
 ·subst h;rw[eZ rfl];simp
 ·rw[fG h];rw[Bool.eq_false_iff];intro ac;apply h;apply List.ext_getElem (by omega);intro j h1 h2;rw[Od]at ac;have:=ac j (by simp;omega);rw[beq_iff_eq]at this;rw[getElem!_pos xs j h1,getElem!_pos ys j h2]at this;exact this
end Go.Proofs.YtgbbhcbkldhjiaaGreatDoor
