import Derived.Test.YtgbbhcbkldhjiaaGreatDoorK04
set_option linter.all false
set_option maxRecDepth 100000
set_option maxHeartbeats 16000000
namespace Go.Proofs.YtgbbhcbkldhjiaaGreatDoor
open Go.Proofs.Tryz Go.RowKit Bf
section
variable {As:List Asn} {w0:World} {v u:Value}
instance{x:RecR}:Con prog 131 #[.agg (am x).toArray] As (.agg ((i9 x).map bY).toArray) As:=⟨fun w M=>by
 go_enter func131,ntmps131;go_wp2_with(first|(refine mk ((i9 x).map bY) ?_)|refine mz M fun M=>?_);refine mr M ?_;exact⟨rfl,M.dr 2⟩⟩
noncomputable def ja(x y:RecR):Bool:=eqB x.item y.item&&(eqB x.plant y.plant&&(eqB (i9 x) (i9 y)&&(eqB x.ifs y.ifs&&(eqB x.ins y.ins&&(eqB x.outs y.outs&&eqB x.runs y.runs)))))
instance sameRec_c{x y:RecR}[Old As w0][Fct (aQ w0 x)][Fct (aQ w0 y)]:Con prog 92 #[.agg (am x).toArray,.agg (am y).toArray] As (.bool (ja x y)) As:=⟨fun w M=>by
 have e1:=pQ x.item y.item;have e2:=pQ x.plant y.plant;have e3:=GL (i9 x) (i9 y) rfl rfl
 cases h1:eqB x.item y.item
 case' true=>
  cases h2:eqB x.plant y.plant
  case' true=>
   cases h3:eqB (i9 x) (i9 y)
   case' true=>
    cases h4:eqB x.ifs y.ifs
    case' true=>
     cases h5:eqB x.ins y.ins
     case' true=>cases h6:eqB x.outs y.outs
 all_goals
  go_enter func92,ntmps92
  go_wp2_with refine mz M fun M=>?_
  refine mg M [0,1,2,3,4,5,6,7,8,9,10,11,12,13,14,16,17,1015,1018,19,20,21,22,23,24,25,1026,27,28,29,30,31,32,1033,34,35,36,37,38,39,1040,41,42,43,44,45,46,1047,48,49] fun _ M=>?_
  repeat(first|refine sz M fun M=>?_|refine sj M fun M=>?_|refine sv M fun M=>?_|refine sp M fun M=>?_|refine sQ ?_)
  try refine aj ?_
  go_wp2_with refine mz M fun M=>?_
  go_ret
  exact⟨by simp[ja, *],M.dr 2⟩⟩
end
def lN(w:World)(x:OptR):Prop:=RowC w 1 x.cv (x.choices.map bF)/\x.choices.length<=1048576
noncomputable def jb(x y:OptR):Bool:=eqB x.name y.name&&eqB x.choices y.choices
def qh(w:World)(x:ForbR):Prop:=RowC w 4 x.cv (x.conds.map aT)/\x.conds.length<=1048576
noncomputable def lO(x y:ForbR):Bool:=eqB x.conds y.conds
structure cV where
 cv:Value
 code:List In
def codeC(u:cV):List Value:=[u.cv]
def qi(w:World)(x:cV):Prop:=RowC w 6 x.cv (x.code.map au)/\x.code.length<=1048576
noncomputable def tC(x y:cV):Bool:=eqB x.code y.code
noncomputable def ip(a b:SrcR):Bool:=eqB a.units b.units&&(eqB a.items b.items&&(eqB a.plants b.plants&&(eqB a.machs b.machs&&(aV jb a.opts b.opts&&(aV lO a.forbs b.forbs&&(aV ja a.recs b.recs&&(eqB a.swaps b.swaps)))))))
section
variable {As:List Asn} {w0:World} {v u:Value}
instance{x y:OptR}[Old As w0][hx:Fct (lN w0 x)][hy:Fct (lN w0 y)]:Con prog 88 #[.agg (bX x).toArray,.agg (bX y).toArray] As (.bool (jb x y)) As:=⟨fun w M=>by
 haveI:ah w0 x.cv ByteArray 1 x.choices bF:=⟨hx.1.1,hx.1.2⟩
 haveI:ah w0 y.cv ByteArray 1 y.choices bF:=⟨hy.1.1,hy.1.2⟩
 have e1:=pQ x.name y.name
 cases h1:eqB x.name y.name;all_goals
  go_enter func88,ntmps88
  go_wp2_with refine mz M fun M=>?_
  go_ret
  exact⟨by simp[jb, *],M.dr 2⟩⟩
instance{a b:List OptR}[Old As w0][hx:ah w0 v OptR 2 a bX][hy:ah w0 u OptR 2 b bX][ha:Fct (∀x∈a,lN w0 x)][hb:Fct (∀x∈b,lN w0 x)]:Con prog 87 #[v,u,.func (.func 88) #[] #[]] As (.bool (aV jb a b)) As:=⟨fun w M=>by
 obtain⟨n,hn⟩:=nm a.length;obtain⟨m,hm⟩:=nm b.length;have hl:=hx.le;rw[hn]at hl;by_cases ad:n=m
 case neg=>
  have h1:((n:Int) != (m:Int))=true:=by simpa using fun h:(n:Int)=m=>ad (by omega)
  go_enter func87,ntmps87;go_wp2_with refine mz M fun M=>?_;go_ret;exact⟨by rw[mW (by omega)];rfl,M⟩
 subst ad;go_enter func87,ntmps87;go_wp2_with refine mz M fun M=>?_;go_loopw [17] (fun z W=>∃k:Nat,k<=n/\z=.int .i64 k/\M.w0 W/\Hid (aV jb (a.take k) (b.take k)=true)) (fun z _=>n-(intOf z).toNat)
 case atStart=>exact⟨0,by omega,rfl,M,rfl⟩
 obtain⟨k,hk,rfl,M,hs⟩:=hrel;replace M:Sep _ _:=M;by_cases ag:k<n
 case neg=>
  obtain rfl:n=k:=by omega
  go_wp2_with refine mz M fun M=>?_;go_ret;exact⟨by have:=hs.out;rw[Ny (by omega),Ny (by omega)]at this;rw[this];rfl,M⟩
 obtain⟨x,ab⟩:=gx (l:=a) (i:=k);obtain⟨y,ac⟩:=gx (l:=b) (i:=k);haveI:=Fct.mk (ha.out x (Oc ab));haveI:=pU (x:=x) (w:=w0) ⟨this.1.1,this.1.2⟩;haveI:=Fct.mk (hb.out y (Oc ac));haveI:=pU (x:=y) (w:=w0) ⟨this.1.1,this.1.2⟩
 cases e:jb x y
 case false=>
  go_wp2_with refine mz M fun M=>?_;go_ret;exact⟨by rw[mY ab ac e];rfl,M.dr 2⟩
 go_wp2_with refine mz M fun M=>?_;go_roundw
 case rel=>exact⟨k+1,by omega,by go_num,M.dr 2,by show _=_;rw[mX ab ac,hs.out];exact e⟩
 case measure=>simp[intOf];omega⟩
instance{a b:List ForbR}[Old As w0][hx:ah w0 v ForbR 1 a gc][hy:ah w0 u ForbR 1 b gc][ha:Fct (∀x∈a,qh w0 x)][hb:Fct (∀x∈b,qh w0 x)]:Con prog 89 #[v,u,.func (.func 90) #[] #[]] As (.bool (aV lO a b)) As:=⟨fun w M=>by
 obtain⟨n,hn⟩:=nm a.length;obtain⟨m,hm⟩:=nm b.length;have hl:=hx.le;rw[hn]at hl;by_cases ad:n=m
 case neg=>
  have h1:((n:Int) != (m:Int))=true:=by simpa using fun h:(n:Int)=m=>ad (by omega)
  go_enter func89,ntmps89;go_wp2_with refine mz M fun M=>?_;go_ret;exact⟨by rw[mW (by omega)];rfl,M⟩
 subst ad;go_enter func89,ntmps89;go_wp2_with refine mz M fun M=>?_;go_loopw [17] (fun z W=>∃k:Nat,k<=n/\z=.int .i64 k/\M.w0 W/\Hid (aV lO (a.take k) (b.take k)=true)) (fun z _=>n-(intOf z).toNat)
 case atStart=>exact⟨0,by omega,rfl,M,rfl⟩
 obtain⟨k,hk,rfl,M,hs⟩:=hrel;replace M:Sep _ _:=M;by_cases ag:k<n
 case neg=>
  obtain rfl:n=k:=by omega
  go_wp2_with refine mz M fun M=>?_;go_ret;exact⟨by have:=hs.out;rw[Ny (by omega),Ny (by omega)]at this;rw[this];rfl,M⟩
 obtain⟨x,ab⟩:=gx (l:=a) (i:=k);obtain⟨y,ac⟩:=gx (l:=b) (i:=k);haveI:=Fct.mk (ha.out x (Oc ab));haveI:ah w0 x.cv aP 4 x.conds aT:=⟨this.1.1,this.1.2⟩
 haveI:=Fct.mk (hb.out y (Oc ac));haveI:ah w0 y.cv aP 4 y.conds aT:=⟨this.1.1,this.1.2⟩
 cases e:eqB x.conds y.conds
 case false=>
  go_wp2_with refine mz M fun M=>?_;go_ret;exact⟨by rw[mY ab ac e];rfl,M.dr 0⟩
 go_wp2_with refine mz M fun M=>?_;go_roundw
 case rel=>exact⟨k+1,by omega,by go_num,M.dr 0,by show _=_;rw[mX ab ac,hs.out];exact e⟩
 case measure=>simp[intOf];omega⟩
instance{a b:List RecR}[Old As w0][hx:ah w0 v RecR 17 a am][hy:ah w0 u RecR 17 b am][ha:Fct (∀x∈a,aQ w0 x)][hb:Fct (∀x∈b,aQ w0 x)]:Con prog 91 #[v,u,.func (.func 92) #[] #[]] As (.bool (aV ja a b)) As:=⟨fun w M=>by
 obtain⟨n,hn⟩:=nm a.length;obtain⟨m,hm⟩:=nm b.length;have hl:=hx.le;rw[hn]at hl;by_cases ad:n=m
 case neg=>
  have h1:((n:Int) != (m:Int))=true:=by simpa using fun h:(n:Int)=m=>ad (by omega)
  go_enter func91,ntmps91;go_wp2_with refine mz M fun M=>?_;go_ret;exact⟨by rw[mW (by omega)];rfl,M⟩
 subst ad;go_enter func91,ntmps91;go_wp2_with refine mz M fun M=>?_;go_loopw [17] (fun z W=>∃k:Nat,k<=n/\z=.int .i64 k/\M.w0 W/\Hid (aV ja (a.take k) (b.take k)=true)) (fun z _=>n-(intOf z).toNat)
 case atStart=>exact⟨0,by omega,rfl,M,rfl⟩
 obtain⟨k,hk,rfl,M,hs⟩:=hrel;replace M:Sep _ _:=M;by_cases ag:k<n
 case neg=>
  obtain rfl:n=k:=by omega
  go_wp2_with refine mz M fun M=>?_;go_ret;exact⟨by have:=hs.out;rw[Ny (by omega),Ny (by omega)]at this;rw[this];rfl,M⟩
 obtain⟨x,ab⟩:=gx (l:=a) (i:=k);obtain⟨y,ac⟩:=gx (l:=b) (i:=k);haveI:=Fct.mk (ha.out x (Oc ab));haveI:=nH (r:=x) (w:=w0);haveI:=Fct.mk (hb.out y (Oc ac));haveI:=nH (r:=y) (w:=w0)
 cases e:ja x y
 case false=>
  go_wp2_with refine mz M fun M=>?_;go_ret;exact⟨by rw[mY ab ac e];rfl,M.dr 2⟩
 go_wp2_with refine mz M fun M=>?_;go_roundw
 case rel=>exact⟨k+1,by omega,by go_num,M.dr 2,by show _=_;rw[mX ab ac,hs.out];exact e⟩
 case measure=>simp[intOf];omega⟩
instance{a b:List cV}[Old As w0][hx:ah w0 v cV 1 a codeC][hy:ah w0 u cV 1 b codeC][ha:Fct (∀x∈a,qi w0 x)][hb:Fct (∀x∈b,qi w0 x)]:Con prog 44 #[v,u,.func (.func 45) #[] #[]] As (.bool (aV tC a b)) As:=⟨fun w M=>by
 obtain⟨n,hn⟩:=nm a.length;obtain⟨m,hm⟩:=nm b.length;have hl:=hx.le;rw[hn]at hl;by_cases ad:n=m
 case neg=>
  have h1:((n:Int) != (m:Int))=true:=by simpa using fun h:(n:Int)=m=>ad (by omega)
  go_enter func44,ntmps44;go_wp2_with refine mz M fun M=>?_;go_ret;exact⟨by rw[mW (by omega)];rfl,M⟩
 subst ad;go_enter func44,ntmps44;go_wp2_with refine mz M fun M=>?_;go_loopw [17] (fun z W=>∃k:Nat,k<=n/\z=.int .i64 k/\M.w0 W/\Hid (aV tC (a.take k) (b.take k)=true)) (fun z _=>n-(intOf z).toNat)
 case atStart=>exact⟨0,by omega,rfl,M,rfl⟩
 obtain⟨k,hk,rfl,M,hs⟩:=hrel;replace M:Sep _ _:=M;by_cases ag:k<n
 case neg=>
  obtain rfl:n=k:=by omega
  go_wp2_with refine mz M fun M=>?_;go_ret;exact⟨by have:=hs.out;rw[Ny (by omega),Ny (by omega)]at this;rw[this];rfl,M⟩
 obtain⟨x,ab⟩:=gx (l:=a) (i:=k);obtain⟨y,ac⟩:=gx (l:=b) (i:=k);haveI:=Fct.mk (ha.out x (Oc ab));haveI:ah w0 x.cv In 6 x.code au:=⟨this.1.1,this.1.2⟩
 haveI:=Fct.mk (hb.out y (Oc ac));haveI:ah w0 y.cv In 6 y.code au:=⟨this.1.1,this.1.2⟩
 cases e:eqB x.code y.code
 case false=>
  go_wp2_with refine mz M fun M=>?_;go_ret;exact⟨by rw[mY ab ac e];rfl,M.dr 0⟩
 go_wp2_with refine mz M fun M=>?_;go_roundw
 case rel=>exact⟨k+1,by omega,by go_num,M.dr 0,by show _=_;rw[mX ab ac,hs.out];exact e⟩
 case measure=>simp[intOf];omega⟩
instance same_c{a b:SrcR}[Old As w0][ha:Fct (ap w0 a)][hb:Fct (ap w0 b)]:Con prog 42 #[.agg (srcC a).toArray,.agg (srcC b).toArray] As (.bool (ip a b)) As:=⟨fun w M=>by
 haveI:Fct (∀x∈a.opts,lN w0 x):=⟨ha.1.opt⟩
 haveI:Fct (∀x∈b.opts,lN w0 x):=⟨hb.1.opt⟩
 haveI:Fct (∀x∈a.forbs,qh w0 x):=⟨ha.1.forb⟩
 haveI:Fct (∀x∈b.forbs,qh w0 x):=⟨hb.1.forb⟩
 haveI:Fct (∀x∈a.recs,aQ w0 x):=⟨ha.1.recv⟩
 haveI:Fct (∀x∈b.recs,aQ w0 x):=⟨hb.1.recv⟩
 cases h1:eqB a.units b.units
 case' true=>
  cases h2:eqB a.items b.items
  case' true=>
   cases h3:eqB a.plants b.plants
   case' true=>
    cases h4:eqB a.machs b.machs
    case' true=>
     cases h5:aV jb a.opts b.opts
     case' true=>
      cases h6:aV lO a.forbs b.forbs
      case' true=>cases h7:aV ja a.recs b.recs
 all_goals
  go_enter func42,ntmps42
  go_wp2_with refine mz M fun M=>?_
  go_ret
  exact⟨by simp[ip, *],M.dr 2⟩⟩
def GM(a b)(w)(ha:ap w a)(hb:ap w b):Calls prog 42 #[.agg (srcC a).toArray,.agg (srcC b).toArray] w (Ret w (.bool (ip a b))):=by
 haveI:=Fct.mk ha;haveI:=Fct.mk hb;exact(same_c.out w (Sep.new w)).mono fun _ _ h=>⟨h.1,h.2.bel⟩
end
def fidx:List ByteArray->ByteArray->Option Nat
 |[],_=>none
 |x::l,n=>if x=n then some 0 else(fidx l n).map (· + 1)
def zg(M)(x n):fidx (M++[x]) n=match fidx M n with
 |some i=>some i
 |none=>if x=n then some M.length else none:=by
 induction M with
 |nil=>simp only[M9,fidx];split <;> rfl
 |cons y M ih=>
  simp only[MZ,fidx]
  split
  ·rfl
  ·rw[ih]
   cases fidx M n with
   |some i=>rfl
   |none=>simp only[Option.map_none,M6];split <;> rfl
def zh{M}{n}:fidx M n=none<->n ∉ M:=by
 induction M with
 |nil=>simp[fidx]
 |cons y M ih=>
  simp only[fidx,Og,not_or]
  split
  ·rename_i h;subst h;simp
  ·rename_i h
   rw[Option.map_eq_none_iff,ih]
   exact⟨fun k=>⟨fun e=>h e.symm,k⟩,fun k=>k.2⟩
def Io{M}{n}{i:Nat}(h:fidx M n=some i):i<M.length:=by
 induction M generalizing i with
 |nil=>simp[fidx]at h
 |cons y M ih=>
  simp only[fidx]at h
  split at h
  ·cases h;simp
  ·cases hm:fidx M n with
   |none=>rw[hm]at h;cases h
   |some j=>rw[hm]at h;cases h;have:=ih hm;simp;omega
def fnd(M:List ByteArray)(n:ByteArray):Option Int:=(fidx M n).map fun i=>(i:Int)
def lS(s:SrcR):List ByteArray:=s.opts.map (·.name)
def kC(s:SrcR):List ByteArray:=s.units.map (·.name)
def gO(s:SrcR):List ByteArray:=s.items.map (·.name)
def nW(s:SrcR):List ByteArray:=s.machs.map (·.name)
def chs(s:SrcR)(o:Int):List ByteArray:=match s.opts[o.toNat]? with|some p=>p.choices|none=>[]
def fh(s:SrcR)(c:aP):Option aP:=(fnd (lS s) c.option).bind fun o=>(fnd (chs s o) c.choice).map fun k=>⟨c.option,c.choice,o,k⟩
def jd(s:SrcR)(a:aw):Option aw:=(fnd (kC s) a.unit).bind fun u=>(fnd (gO s) a.item).map fun i=>⟨a.n,a.d,a.unit,a.item,a.back,u,i⟩
def nX(s:SrcR)(r:cO):Option cO:=(fnd (nW s) r.machine).map fun m=>⟨r.machine,r.slots,m⟩
def kD(s:SrcR)(i:dP):Option dP:=(fnd (kC s) i.unit).map fun u=>⟨i.name,i.unit,i.massN,i.massD,i.shelf,u⟩
def kE(s:SrcR)(m:eW):Option eW:=(fnd s.plants m.plant).map fun p=>⟨m.name,m.plant,m.clean,p⟩
def kF(s:SrcR)(x:fD):Option fD:=(fnd (gO s) x.a).bind fun a=>(fnd (gO s) x.b).map fun b=>⟨x.a,x.b,a,b⟩
structure jJ where
 item:ByteArray
 plant:ByteArray
 nums:List Int
 ifs:List aP
 ins:List aw
 outs:List aw
 runs:List cO
def lT(x:RecR):jJ:=⟨x.item,x.plant,i9 x,x.ifs,x.ins,x.outs,x.runs⟩
def iz(s:SrcR)(x:RecR):Option jJ:=(fnd (gO s) x.item).bind fun i=>(fnd s.plants x.plant).bind fun p=>(mapO (fh s) x.ifs).bind fun ifs=>(mapO (jd s) x.ins).bind fun ins=>(mapO (jd s) x.outs).bind fun outs=>(mapO (nX s) x.runs).map fun runs=>
 ⟨x.item,x.plant,[x.frm,x.til,x.reworkN,x.reworkD,x.yieldN,x.yieldD,x.tolN,x.tolD,x.lead,i,p],ifs,ins,outs,runs⟩
structure lW where
 units:List aC
 items:List dP
 plants:List ByteArray
 machs:List eW
 opts:List (ByteArray×List ByteArray)
 forbs:List (List aP)
 recs:List jJ
 swaps:List fD
def optD(o:OptR):ByteArray×List ByteArray:=(o.name,o.choices)
def lX(s:SrcR):lW:=⟨s.units,s.items,s.plants,s.machs,s.opts.map optD,s.forbs.map (·.conds),s.recs.map lT,s.swaps⟩
def iA(s:SrcR)(us:List aC):Option lW:=(mapO (kD s) s.items).bind fun items=>(mapO (kE s) s.machs).bind fun machs=>(mapO (fun f:ForbR=>mapO (fh s) f.conds) s.forbs).bind fun forbs=>(mapO (iz s) s.recs).bind fun recs=>(mapO (kF s) s.swaps).map fun swaps=>
 ⟨us,items,s.plants,machs,s.opts.map optD,forbs,recs,swaps⟩
def nY(s:SrcR):Prop:=¬((kC s).Nodup/\(gO s).Nodup/\s.plants.Nodup/\(nW s).Nodup/\(lS s).Nodup/\∀o∈s.opts,o.choices.Nodup)
def iB(s:SrcR):Prop:=¬nY s/\∃us,eF s.units=some us/\iA s us=some (lX s)
def qC{α β:Type}{f:α->α->Bool}{g:α->β}(h:∀x y,f x y=true<->g x=g y):∀{a b:List α},aV f a b=true<->a.map g=b.map g
 |[],[]=>by simp[aV]
 |x::a,y::b=>by simp[aV,qC h (a:=a) (b:=b),h]
 |[],_::_=>by simp[aV]
 |_::_,[]=>by simp[aV]
def Ip(a b):ip a b=true<->lX a=lX b:=by
 have h1:∀x y,jb x y=true<->optD x=optD y:=fun x y=>by
  simp only[jb,Ob,ko,optD,Prod.mk.injEq]
 have h2:∀x y,lO x y=true<->x.conds=y.conds:=fun x y=>by simp only[lO,ko]
 have h3:∀x y,ja x y=true<->lT x=lT y:=fun x y=>by
  simp only[ja,Ob,ko,lT,jJ.mk.injEq]
 simp only[ip,Ob,ko,qC h1,qC h2,qC h3,lX,lW.mk.injEq]
section
open Go.ChangeMaps (setBlock)
def tT(n m:ByteArray):(n==m)=decide (n=m):=by
 cases n;cases m;rename_i a b;show(a==b)=_;by_cases h:a=b
 ·subst h;simp
 ·simp[h]
def KdS(v:Value):Prop:=∃s:ByteArray,v=.string s
def tW(P:Program)(kt)(hk:P.underlying kt=some .string):gP P kt KdS:=by
 refine⟨?_,?_,?_⟩
 ·rintro e v w ⟨n,rfl⟩;rw[show(10000:Nat)=9999+1 from rfl,Instr.checkKey];simp only[NM,run_underlying hk,Result.andThen];rfl
 ·rintro v es w ⟨n,rfl⟩ ac;simp only[Instr.findKey,NM,run_underlying hk,Result.andThen];have:∀(es:List MapEntry)(i:Nat),(∀e∈es,KdS e.key)->Instr.findNow .string (.string n) es i=some (dX (.string n) es i):=by
   intro es;induction es with
   |nil=>intro i _;rfl
   |cons e es ih=>
    intro i h
    obtain⟨m,hm⟩:=h e (by simp)
    rw[Instr.findNow,dX,hm]
    simp only[Instr.sameNow]
    by_cases ab:n=m
    ·subst ab
     rw[if_pos rfl,tT]
     simp
    ·have h1:(n==m)=false:=by rw[tT];simpa using ab
     have h2:¬(Value.string m=.string n):=fun e=>by injection e with e;exact ab e.symm
     rw[h1,if_neg h2]
     exact ih _ fun e he=>h e (by simp[he])
  rw[this es 0 ac];rfl
 ·rintro v ⟨n,rfl⟩;simp[Instr.sameBits,tT]
structure fN(kv:List (Value×Value))(M:List ByteArray):Prop where
 key:∀p∈kv,KdS p.1
 get:∀n,aD kv (.string n)=(fnd M n).map fun i=> .int .i64 i
def fN.nil:fN [] []:=⟨fun _ h=>by(cases h),fun n=>rfl⟩
def fN.old{kv:List (Value×Value)}{M}{x}(h:fN kv M)(hx:(aD kv (.string x)).isSome=true):fN kv (M++[x])/\x∈M:=by
 rw[h.get]at hx;unfold fnd at hx
 cases hf:fidx M x with
 |none=>rw[hf]at hx;cases hx
 |some i=>
  refine⟨⟨h.key,fun n=>?_⟩,?_⟩
  ·rw[h.get]
   unfold fnd
   rw[zg]
   cases hn:fidx M n with
   |some j=>rfl
   |none=>
    by_cases e:x=n
    ·subst e;rw[hf]at hn;cases hn
    ·simp only[if_neg e]
  ·exact Classical.byContradiction fun hc=>by rw[zh.2 hc]at hf;cases hf
def fN.new{kv:List (Value×Value)}{M}{x}(h:fN kv M)(hx:(aD kv (.string x)).isSome=false):fN (aF kv (.string x) (.int .i64 (M.length:Int))) (M++[x])/\¬x∈M:=by
 rw[h.get]at hx;unfold fnd at hx
 cases hf:fidx M x with
 |some i=>rw[hf]at hx;cases hx
 |none=>
  refine⟨⟨?_,fun n=>?_⟩,zh.1 hf⟩
  ·intro p hp
   rcases(mem_upd kv (.string x) _ p.1).1 (List.mem_map.2 ⟨p,hp,rfl⟩)with hq|hq
   ·obtain⟨q,hq,e⟩:=List.mem_map.1 hq
    rw[<-e];exact h.key q hq
   ·exact⟨x,hq⟩
  ·rw[zn,h.get]
   unfold fnd
   rw[zg]
   by_cases e:n=x
   ·subst e
    rw[if_pos rfl,hf]
    simp
   ·rw[if_neg (fun h=>by injection h with h;exact e h)]
    cases hn:fidx M n with
    |some j=>rfl
    |none=>simp only[if_neg (fun h:x=n=>e h.symm)]
def kH:List PanicEntry:=[{v:= .iface 337 (.agg #[]),recovered:=false}]
def zr(w:World)(o:Option Int)(e:Ending)(w':World):Prop:=w'=w/\match o with
 |some i=>e=.returned (.int .i64 i)
 |none=>e=.panicked kH
def Iy(b:Nat)(kv:List (Value×Value))(M)(n)(w)(hM:aK w b kv)(hK:fN kv M):Calls prog 171 #[.map (some b),.string n] w (zr w (fnd M n)):=by
 have hg:=hK.get n;have HM:=MY hM;have HK:=MY hK;clear hM hK
 cases hf:fnd M n with
 |some i=>
  rw[hf]at hg
  have HG:Hid (Value.tuple #[.int .i64 i,.bool true]=if true then .tuple #[(aD kv (.string n)).getD (.int .i64 0),.bool (aD kv (.string n)).isSome]else(aD kv (.string n)).getD (.int .i64 0)):=by
   show _=_;rw[hg];rfl
  clear hg hf
  go_enter func171,ntmps171
  go_wp2_with (refine lZ (tW _ _ underlying9) underlying195 rfl (.tmp 8) (.tmp 9) true rfl b (.string n) rfl rfl kv HM.out HK.key ⟨n,rfl⟩ (z:= .int .i64 0) (fun _=>rfl) _ HG.out ?_)
  refine bodyPost_ret (v:= .int .i64 i) (by simp[results,results171,go_sem]) rfl ⟨rfl,rfl⟩
 |none=>
  rw[hf]at hg
  have HG:Hid (Value.tuple #[.int .i64 0,.bool false]=if true then .tuple #[(aD kv (.string n)).getD (.int .i64 0),.bool (aD kv (.string n)).isSome]else(aD kv (.string n)).getD (.int .i64 0)):=by
   show _=_;rw[hg];rfl
  clear hg hf
  go_enter func171,ntmps171
  go_wp2_with (refine lZ (tW _ _ underlying9) underlying195 rfl (.tmp 8) (.tmp 9) true rfl b (.string n) rfl rfl kv HM.out HK.key ⟨n,rfl⟩ (z:= .int .i64 0) (fun _=>rfl) _ HG.out ?_)
  exact⟨rfl,rfl,rfl⟩
end
def aa.blk{w}{B k:Nat}{T}{v}{L:List (List Value)}(h:aa w B T k v L)(h0:L≠[]):∃g cap rest,v=.slice (some ⟨g,0,none⟩) L.length cap/\B<=g/\Blk w g (L.flatten++rest) T/\∀W (L':List (List Value)),L'.length=L.length->(∀c∈L',c.length=k)->Blk W g (L'.flatten++rest) T->aa W B T k v L':=by
 rcases h.1.2 with⟨_,e⟩|⟨g,cap,cur,rfl,h1,h2,h3,h4,h5,h6⟩
 ·exact absurd (List.length_eq_zero_iff.1 e) h0
 ·have ec:cur.toList=L.flatten++cur.toList.drop (L.length*k):=by rw[<-h6,List.take_append_drop]
  refine⟨g,cap,cur.toList.drop (L.length*k),rfl,h1,?_,fun W L' hl hk hb=>⟨⟨?_,.inr ⟨g,cap,(L'.flatten++cur.toList.drop (L.length*k)).toArray,by rw[hl],h1,hb,by rw[hl];exact h3,h4,?_,?_⟩⟩,hk⟩⟩
  ·show w.heap[g]? = some (.cells (L.flatten++cur.toList.drop (L.length*k)).toArray T (0,0));rw[<-ec];simpa using h2
  ·exact gK L' k hk
  ·have hx:=gK L' k hk;have hc:cur.toList.length=cap*k:=by rw[<-h5];simp
   have hm:=Nd k h3;simp only[NV,Oe,List.length_drop,hx,hl,hc];omega
  ·have hx:=gK L' k hk;simp only[List.take_append_of_le_length (show L'.length*k<=L'.flatten.length by omega)];rw[<-hx,OK]
def Iz{L:List (List Value)}{k:Nat}{x}(h:L[k]? = some x)(M rest):M++(L.drop k).flatten++rest=M++x++((L.drop (k+1)).flatten++rest):=by
 obtain⟨hk,rfl⟩:=NQ.1 h;rw[List.drop_eq_getElem_cons hk,List.flatten_cons];simp only[OL]
def bS(T:TypeId)(p:World->Prop):Prop:=∀W W' row,p W->W.grownBy W' row->(∀r,row=some r->∃cs fr,W.heap[r]? = some (.cells cs T fr))->p W'
def bS.below{T}{p:World->Prop}(h:bS T p){W W'}(hp:p W)(hb:eB W W'):p W':=
 h W W' none hp ⟨hb.os,hb.tape,hb.output,hb.size,fun k hk _=>hb.block k hk⟩ (fun r e=>by cases e)
def aa.stay{B k:Nat}{T' T}{v}{L:List (List Value)}(ac:T'≠T):bS T fun W=>aa W B T' k v L:=by
 intro W W' row h hg hr;refine h.of_block fun g ab=>hg.block g (h.lt ab) fun e=>?_;obtain⟨cs,fr,hc⟩:=hr g e.symm;rcases h.1.2 with⟨rfl,_⟩|⟨g',cap,cur,rfl,_,h2,_⟩
 ·cases ab
 ·have e1:g'=g:=Option.some.inj ab;subst e1;rw[h2]at hc;injection hc with hc;injection hc with _ hc;exact ac hc
def tX{α δ:Type}(T:TypeId)(enc:α->List Value)(RX:α->δ->World->Prop)(b:Nat)(pre post:List Value)(o:Option δ)(W:World)(e:Ending)(W':World):Prop:=match o with
 |some d=>e=.returned (.tuple #[])/\W.grownBy W' (some b)/\∃y,RX y d W'/\Blk W' b (pre++enc y++post) T
 |none=>e=.panicked kH/\Below b W W'
def gQ{α δ:Type}(P:Program)(cf:Nat)(cap:Array Value)(T:TypeId)(enc:α->List Value)(RX:α->δ->World->Prop)(nf:α->Option δ)(L:List α)(w:World):Prop:=
 ∀(b o:Nat)(pre post:List Value) (x:α) (W:World),x∈L->eB w W->w.heap.size<=b->pre.length=o->Blk W b (pre++enc x++post) T->Calls P cf (#[.pointer (some ⟨b,o,none⟩)]++cap) W (tX T enc RX b pre post (nf x) W)
def qG{α δ:Type}(T:TypeId)(k:Nat)(enc:α->List Value)(RX:α->δ->World->Prop)(w:World)(o:Option (List δ))(e:Ending)(w':World):Prop:=
 eB w w'/\match o with
  |some ds=>∃(v:Value)(ys:List α),e=.returned v/\aa w' w.heap.size T k v (ys.map enc)/\ys.length=ds.length/\∀(i:Nat)(y:α) (d:δ),ys[i]? = some y->ds[i]? = some d->RX y d w'
  |none=>e=.panicked kH
structure NSt{α δ:Type}(T:TypeId)(enc:α->List Value)(RX:α->δ->World->Prop)(nf:α->Option δ)(w:World)(L:List α)(g:Nat)(rest:List Value)(k:Nat)(ys:List α)(ds:List δ)(W:World):Prop where
 len:ys.length=k
 mp:mapO nf (L.take k)=some ds
 rx:∀(i:Nat)(y:α) (d:δ),ys[i]? = some y->ds[i]? = some d->RX y d W
 bk:Blk W g ((ys.map enc).flatten++((L.map enc).drop k).flatten++rest) T
 bl:eB w W
 ge:w.heap.size<=g
section
variable {α δ:Type} {T:TypeId} {enc:α->List Value} {RX:α->δ->World->Prop} {nf:α->Option δ} {w:World} {L:List α} {g:Nat} {rest:List Value} {k K:Nat} {ys:List α} {ds:List δ} {W W':World}
def NSt.init(ab:Blk W g ((L.map enc).flatten++rest) T)(hb:eB w W)(hg:w.heap.size<=g):NSt T enc RX nf w L g rest 0 [] [] W:=
 ⟨rfl,by simp[mapO],fun i y d h=>by simp at h,by simpa using ab,hb,hg⟩
def NSt.at(h:NSt T enc RX nf w L g rest k ys ds W){x:α}(hx:L[k]? = some x):Blk W g ((ys.map enc).flatten++enc x++(((L.map enc).drop (k+1)).flatten++rest)) T:=by
 have:=h.bk;rw[Iz (x:=enc x) (by rw[Ou,hx];rfl)]at this;exact this
def NSt.next(ac:∀y d,bS T (RX y d))(h:NSt T enc RX nf w L g rest k ys ds W){x y:α}{d:δ}(hx:L[k]? = some x)(hd:nf x=some d)(hg:W.grownBy W' (some g))(hy:RX y d W')(hb:Blk W' g ((ys.map enc).flatten++enc y++(((L.map enc).drop (k+1)).flatten++rest)) T):NSt T enc RX nf w L g rest (k+1) (ys++[y]) (ds++[d]) W':=by
 have ab:ds.length=k:=by rw[cA h.mp,Nz];have:=(NQ.1 hx).1;omega
 refine⟨by simp[h.len],ir hx h.mp hd,fun i y' d' h1 h2=>?_,?_,h.bl.grown hg h.bl.size (fun r e=>by cases e;exact h.ge),h.ge⟩
 ·by_cases hi:i<k
  ·rw[N4 (by rw[h.len];exact hi)]at h1;rw[N4 (by rw[ab];exact hi)]at h2;exact ac y' d' W W' _ (h.rx i y' d' h1 h2) hg (fun r e=>by cases e;exact⟨_,_,h.bk⟩)
  ·have ad:i=k:=by have:=(NQ.1 h1).1;simp[h.len]at this;omega
   subst ad;rw[N5 (by rw[h.len];exact No _),h.len]at h1;rw[N5 (by rw[ab];exact No _),ab]at h2;simp at h1 h2;subst h1 h2;exact hy
 ·have e:(List.map enc (ys++[y])).flatten++(List.drop (k+1) (L.map enc)).flatten++rest=(ys.map enc).flatten++enc y++(((L.map enc).drop (k+1)).flatten++rest):=by
   simp only[N9,List.flatten_append,NP,List.map_nil,List.flatten_cons,List.flatten_nil,Oz,OL]
  rw[e];exact hb
end
end Go.Proofs.YtgbbhcbkldhjiaaGreatDoor
