/- Contracts of the feed, proved. Conditions: those of each contract. -/
import Derived.Test.YtakedkcjplfgeaaGreatDoorMXW
set_option maxRecDepth 1000000
set_option maxHeartbeats 32000000
namespace Go.Proofs.YtakedkcjplfgeaaGreatDoor.Num
theorem xE (u:Nat):val (qL u)=u:=by
 induction u using Nat.strongRecOn with
 |_ u ih=>
  by_cases h:u<10
  ·
   rw[zD h];have:=zi u h;simp only[val,List.foldl_cons,List.foldl_nil,this];omega
  ·
   rw[jC h,ZY,ih (u / 10) (by omega),zi (u%10) (by omega)];omega
theorem VX (u:Nat):zC (qL u)=true:=by
 induction u using Nat.strongRecOn with
 |_ u ih=>
  by_cases h:u<10
  ·
   rw[zD h];have:=zi u h;simp only[zC,List.all_cons,List.all_nil,Bool.and_true,jg];omega
  ·
   rw[jC h,Jy,ih (u / 10) (by omega)];have:=zi (u%10) (by omega);simp only[Bool.true_and,jg];omega
theorem Xc (u:Nat) (hu:0<u):(qL u).head?≠some 48:=by
 induction u using Nat.strongRecOn with
 |_ u ih=>
  by_cases h:u<10
  ·
   rw[zD h];have:=zi u h;intro e;simp only[List.head?_cons,Option.some.injEq]at e;rw[e]at this;simp at this
   omega
  ·
   rw[jC h];have:=ih (u / 10) (by omega) (by omega);have hne:=JX (u / 10);cases hd:qL (u / 10)with
   |nil=>exact absurd hd hne
   |cons a t=>
    rw[hd]at this;simpa using this
theorem kP (u:Nat):zN (qL u)=true:=by
 have h1:=VX u;have h2:(qL u).isEmpty=false:=by
  have:=JX u;cases hd:qL u with
  |nil=>exact absurd hd this
  |cons a t=>rfl
 by_cases hu:u=0
 ·
  subst hu;rw[zD (by omega)];decide
 ·
  have h3:=Xc u (by omega);simp[zN,h1,h2,h3]
theorem YU (u:Nat):qL u=[48]↔u=0:=by
 constructor
 ·
  intro h;have:=xE u;rw[h]at this;simpa[val]using this.symm
 ·
  rintro rfl;rw[zD (by omega)];rfl
theorem GG {l:List UInt8} (h:zN l=true):l.head?≠some 45:=by
 cases l with
 |nil=>simp
 |cons a t=>
  simp[zN,zC,qV]at h
  intro e;simp only[List.head?_cons,Option.some.injEq]at e;subst e;simp at h
theorem uO (n:Int) (h0: -9223372036854775808<=n) (h1:n<=9223372036854775807):kF (jO n)=(n,0):=by
 unfold kF jO;by_cases hn:n<0
 ·
  rw[if_pos hn,if_pos (by rfl),List.tail_cons,xE,if_pos ⟨kP _,by rw[Ne,YU];omega⟩,if_pos (by unfold big;omega)];rw[Prod.mk.injEq];exact⟨by omega,rfl⟩
 ·
  rw[if_neg hn,if_neg (GG (kP _)),if_pos (kP _),xE,if_pos (by unfold big;omega)];rw[Prod.mk.injEq];exact⟨by omega,rfl⟩
end Go.Proofs.YtakedkcjplfgeaaGreatDoor.Num
namespace Go.Proofs.YtakedkcjplfgeaaGreatDoor.Clk
open Num
theorem vV (n:Nat) (h:n<100):qV (UInt8.ofNat (48+n / 10))=true/\qV (UInt8.ofNat (48+n%10))=true/\wH (UInt8.ofNat (48+n / 10)) (UInt8.ofNat (48+n%10))=n:=by
 have h1:=zi (n / 10) (by omega);have h2:=zi (n%10) (by omega);refine⟨?_, ?_, ?_⟩
 · rw[jg];omega
 · rw[jg];omega
 ·
  unfold wH;rw[h1,h2];omega
end Go.Proofs.YtakedkcjplfgeaaGreatDoor.Clk
namespace Go.Proofs.YtakedkcjplfgeaaGreatDoor.Dat
open Num Clk
theorem Gg (d:Int):(12*(kZ d-2000)+jl d-1).toNat=Gf d:=by
 unfold kZ jl;omega
theorem sZ (d:Int) (h0:0<=d) (h1:d<=36524):jV (kZ d) (jl d) (QJ d)=(d,true):=by
 unfold jV;rw[if_pos (Yt d h0 h1),Gg,Prod.mk.injEq];exact⟨by unfold QJ;omega,rfl⟩
theorem oU {l:List UInt8} {y m d:Int} (h:DF l y m d):vG l KQ=true:=by
 obtain⟨a,b,c,e,f,g,h,k,rfl,⟨h1,h2,h3,h4⟩,⟨h5,h6⟩,⟨h7,h8⟩,_⟩:=h;simp[vG,KQ, *]
theorem FQ (d:Int) (h0:0<=d) (h1:d<=36524):DF (V4 d) (kZ d) (jl d) (QJ d):=by
 obtain⟨⟨y0,y1⟩,⟨m0,m1⟩,⟨d0,d1⟩⟩:=Yt d h0 h1;have hm:=QX (kZ d) (jl d);obtain⟨a1,a2,a3⟩:=vV ((kZ d).toNat / 100) (by omega);obtain⟨b1,b2,b3⟩:=vV ((kZ d).toNat%100) (by omega);obtain⟨c1,c2,c3⟩:=vV (jl d).toNat (by omega);obtain⟨e1,e2,e3⟩:=vV (QJ d).toNat (by omega);refine⟨_,_,_,_,_,_,_,_,rfl,⟨a1,a2,b1,b2⟩,⟨c1,c2⟩,⟨e1,e2⟩, ?_, ?_, ?_⟩
 · rw[a3,b3];omega
 · rw[c3];omega
 · rw[e3];omega
end Go.Proofs.YtakedkcjplfgeaaGreatDoor.Dat
namespace Go.Proofs.YtakedkcjplfgeaaGreatDoor.Fld
theorem ZR {l:List UInt8} (h:jq l=true): ∀ b∈l,Qi b=false:=by
 unfold jq at h;rw[Bool.and_eq_true,Bool.not_eq_true',List.any_eq_false]at h;intro b hb;simpa using h.1 b hb
theorem oH {l:List UInt8} (h:jq l=true):l≠[]:=by
 intro e;rw[e]at h;simp[jq]at h
theorem Vp (l:List UInt8):jq (34::(jR l++[34]))=false:=by
 cases h:jq (34::(jR l++[34]))with
 |false=>rfl
 |true=>
  have:=ZR h 34 (List.mem_cons_self ..);exact absurd this (by decide)
theorem fG (o:List UInt8):jJ (zg o)=some o:=by
 cases h:jq o with
 |true=>rw[xm h];unfold jJ;rw[if_pos h]
 |false=>
  have hq:=JM h;unfold jJ;rw[hq,if_neg (by rw[Vp];decide),if_neg]
  ·
   rw[List.drop_succ_cons,List.drop_zero,List.dropLast_concat,dE];simp only;rw[if_pos hq]
  ·
   have hl:(34::(jR o++[34]):List UInt8).getLast?=some 34:=by
    rw[show(34::(jR o++[34]):List UInt8)=(34::jR o)++[34] from rfl,List.getLast?_concat]
   rw[hl];simp
theorem WL: ∀ (l rest:List UInt8),(∀ b∈l,Qi b=false)->(rest=[]∨ ∃ r,rest=44::r)->wS (l++rest)=l.length
 |[],rest,_,h=>by
  rcases h with rfl|⟨r,rfl⟩
  · rfl
  · rfl
 |c::l,rest,h,h'=>by
  have hc:=h c (List.mem_cons_self ..);rw[List.cons_append];unfold wS;have h44:(c.toNat==44)=false:=by
   unfold Qi at hc;simp only[Bool.or_eq_false_iff]at hc;exact hc.1
  rw[if_neg (by rw[h44];decide),WL l rest (fun b hb=>h b (List.mem_cons_of_mem _ hb)) h',List.length_cons];omega
theorem dR {n:Nat} (h:n<16):((KE n).toNat==34)=false/\((KE n).toNat==92)=false:=by
 rw[beq_eq_false_iff_ne,beq_eq_false_iff_ne,Xe h];split<;>omega
theorem uj (b:UInt8) (r:List UInt8):yg (xR b++r)=(xR b).length+yg r:=by
 unfold xR;split
 · exact Vr b r
 ·
  rename_i h;split
  ·
   have hb:=rD b;obtain⟨x1,x2⟩:=dR (show b.toNat / 16<16 by omega);obtain⟨y1,y2⟩:=dR (show b.toNat%16<16 by omega);show yg (92::120::KE (b.toNat / 16)::KE (b.toNat%16)::r)=4+yg r
   rw[Vr,Jg _ _ x1 x2,Jg _ _ y1 y2];omega
  ·
   show yg (b::r)=1+yg r
   simp only[Bool.or_eq_true,not_or,Bool.not_eq_true]at h;exact Jg b r h.1 h.2
theorem WM: ∀ (l r:List UInt8),yg (jR l++r)=(jR l).length+yg r
 |[],r=>by simp[jR]
 |b::l,r=>by
  have e:jR (b::l)=xR b++jR l:=by simp[jR]
  rw[e,List.append_assoc,uj,WM l r,List.length_append];omega
theorem dJ (o rest:List UInt8) (h:rest=[]∨ ∃ r,rest=44::r):Qc (zg o++rest)=(zg o).length:=by
 cases hp:jq o with
 |true=>
  rw[xm hp];have hne:=oH hp;have hs:=ZR hp;cases o with
  |nil=>exact absurd rfl hne
  |cons c r=>
   have hc:=hs c (List.mem_cons_self ..);have h34:(c.toNat==34)=false:=by
    unfold Qi at hc;simp only[Bool.or_eq_false_iff]at hc;exact hc.2.1
   show(if(c.toNat==34)=true then _ else wS ((c::r)++rest))=_
   rw[if_neg (by rw[h34];decide)];exact WL _ _ hs h
 |false=>
  rw[JM hp];show(if((34:UInt8).toNat==34)=true then 1+yg ((jR o++[34])++rest)else wS (34::((jR o++[34])++rest)))=_
  rw[if_pos (by decide),List.append_assoc,WM];have:yg ([34]++rest)=1:=by
   show yg (34::rest)=1
   unfold yg;rw[if_pos (by decide)]
  rw[this,List.length_cons,List.length_append,List.length_singleton];omega
theorem WN: ∀ (n:Nat) (l:List (List UInt8)),l≠[]->l.length<=n->kS n (kK l)=(l,0)
 |0,l,h,hl=>by cases l with|nil=>exact absurd rfl h|cons=>simp at hl
 |n+1,[],h,_=>absurd rfl h
 |n+1,[x],_,_=>by
  have he:Qc (kK [x])=(zg x).length:=by
   have:=dJ x [] (.inl rfl);rw[List.append_nil]at this;exact this
  simp only[kS];rw[he];show(match jJ ((zg x).take (zg x).length)with|none=>_|some f=>_)=_
  rw[List.take_length,fG];simp only;rw[show(kK [x]).drop (zg x).length=[] from List.drop_length]
 |n+1,x::y::r,_,hl=>by
  have e:kK (x::y::r)=zg x++44::kK (y::r):=rfl;have he:Qc (kK (x::y::r))=(zg x).length:=by rw[e];exact dJ x _ (.inr ⟨_,rfl⟩)
  have ih:=WN n (y::r) (by simp) (by simpa using hl);simp only[kS];rw[he,e,List.take_left,fG];simp only;rw[List.drop_left];simp only;rw[if_pos (by decide),ih,if_pos rfl]
theorem ut {l:List (List UInt8)} {s:List UInt8} (h:zL l=(s,0)):yM s=(l,0):=by
 unfold zL at h;split at h
 · rw[Prod.mk.injEq]at h;exact absurd h.2 (by decide)
 ·
  split at h
  · rw[Prod.mk.injEq]at h;exact absurd h.2 (by decide)
  ·
   rw[Prod.mk.injEq]at h;obtain⟨rfl,-⟩:=h;unfold yM;rw[if_neg (by assumption)];cases l with
   |nil=>rfl
   |cons x r=>
    have hne:kK (x::r)≠[]:=by
     intro e;have hq:zg x≠[]:=by
      cases hp:jq x with
      |true=>rw[xm hp];exact oH hp
      |false=>rw[JM hp];simp
     cases r with
     |nil=>exact hq e
     |cons y r=>rw[yx x (by simp)]at e;simp at e
    rw[if_neg hne];exact WN 64 _ (by simp) (by omega)
end Go.Proofs.YtakedkcjplfgeaaGreatDoor.Fld
namespace Go.Proofs.YtakedkcjplfgeaaGreatDoor.Tt
open Num Clk Dat Frq Thr Fld
theorem xZ (b:Bool):yI (kG b)=(b,0):=by cases b<;>decide
theorem XA (b:Bool):Qu yN jM (if b then yN else jM)=(b,0):=by cases b<;>decide
theorem fJ (w:Vw):JR (Qk w)=(w,0):=by
 have h: ∀ b,(ai b==49)=b:=fun b=>by cases b<;>rfl
 have h2: ∀ b,(ai b==48||b)=true:=fun b=>by cases b<;>rfl
 unfold Qk JR;simp only[List.all_cons,List.all_nil,h,h2,Bool.and_self,if_true]
theorem eP (c:CallD):Zp (Qh c)=((c.board,c.alight),0):=by
 obtain⟨s,a,d,b,al⟩:=c;cases b<;>cases al<;>rfl
theorem dh {m:Int} (h:0<=m/\m<=7):KL (Qe m)=(m,0):=by
 have:m=0∨m=1∨m=2∨m=3∨m=4∨m=5∨m=6∨m=7:=by omega
 rcases this with rfl|rfl|rfl|rfl|rfl|rfl|rfl|rfl<;>decide
theorem DN: ∀ m:Fin 256,QR (vU (m.val:Int))=((m.val:Int),0):=by decide+kernel
theorem Xt {m:Int} (h:0<=m/\m<=255):QR (vU m)=(m,0):=by
 have:=DN ⟨m.toNat,by omega⟩;simpa[Int.toNat_of_nonneg h.1]using this
theorem mg: ∀ {ids:List (List UInt8)} (_:ids.Nodup) (i:Nat) {x:List UInt8},ids[i]? =some x->qm x ids=some i
 |[],_,i,x,h=>by simp at h
 |y::r,hn,0,x,h=>by
  have:y=x:=by simpa using h
  unfold qm;rw[if_pos this]
 |y::r,hn,i+1,x,h=>by
  have hx:r[i]? =some x:=by simpa using h
  have hne:y≠x:=fun e=>(List.nodup_cons.1 hn).1 (by rw[e];exact List.mem_of_getElem? hx)
  unfold qm;rw[if_neg hne,mg (List.nodup_cons.1 hn).2 i hx];rfl
theorem zo {ids:List (List UInt8)} (hn:ids.Nodup) {i:Int} (h:0<=i/\i<ids.length):zW ids (jF ids i)=(i,0):=by
 have hk:i.toNat<ids.length:=by omega
 unfold zW jF;rw[mg hn i.toNat (by rw[List.getD_eq_getElem?_getD,List.getElem?_eq_getElem hk];rfl)];simp[Int.toNat_of_nonneg h.1]
theorem wJ {t:Int} (h:0<=t/\t<=172800):jw (xU t).1=(t,0):=by
 obtain⟨k,rfl⟩: ∃ k:Nat,t=k:=⟨t.toNat,by omega⟩;unfold xU;rw[if_pos h];simp only[Int.toNat_natCast];obtain⟨a1,a2,a3⟩:=vV (k / 3600) (by omega);obtain⟨b1,b2,b3⟩:=vV (k / 60%60) (by omega);obtain⟨c1,c2,c3⟩:=vV (k%60) (by omega);unfold ZA ZW;show(if(58:UInt8)=58/\(58:UInt8)=58/\_ then _ else _)=_
 rw[if_pos ⟨rfl,rfl,a1,a2,b1,b2,c1,c2⟩,a3,b3,c3];have hj:join ((k / 3600:Nat):Int) ((k / 60%60:Nat):Int) ((k%60:Nat):Int)=((k:Int),true):=by
  unfold join;rw[if_pos (by omega)];rw[show 3600*((k / 3600:Nat):Int)+60*((k / 60%60:Nat):Int)+((k%60:Nat):Int)=(k:Int) by omega]
 rw[hj]
theorem ZB {d:Int} (h:0<=d/\d<=36524):wB (jb d).1=(d,0):=by
 have h1:=FQ d h.1 h.2;have h2:=sZ d h.1 h.2;unfold jb;rw[if_pos h];show wB (V4 d)=_
 unfold wB;rw[if_pos (oU h1)];obtain⟨a,b,c,e,f,g,h',k,hl,-,-,-,e1,e2,e3⟩:=h1;rw[hl];simp only;rw[<-e1,<-e2,<-e3,h2]
theorem lu (d:Nat) (h:d<10):qV (UInt8.ofNat (48+d))=true/\(UInt8.ofNat (48+d)).toNat-48=d:=by
 have ht:(UInt8.ofNat (48+d)).toNat=48+d:=by
  rw[UInt8.toNat_ofNat'];omega
 exact⟨(jg _).2 (by omega),by omega⟩
theorem xk {c:Int} (h:0<=c/\c<=1000000):jr (qW c).1=(c,0):=by
 obtain⟨k,rfl⟩: ∃ k:Nat,c=k:=⟨c.toNat,by omega⟩;unfold qW;rw[if_neg (by omega)];simp only[Int.toNat_natCast];unfold JL;obtain⟨x1,x2⟩:=lu (k / 10%10) (by omega);obtain⟨y1,y2⟩:=lu (k%10) (by omega);have hv:=xE (k / 100);have hc:=kP (k / 100);generalize UInt8.ofNat (48+k / 10%10)=x at*
 generalize UInt8.ofNat (48+k%10)=y at*
 generalize qL (k / 100)=a at*
 have hlen:(a++[46,x,y]).length-3=a.length:=by simp
 unfold jr;rw[hlen,List.drop_left,List.take_left];simp only;rw[if_pos ⟨trivial,hc,x1,y1⟩,hv,x2,y2,if_neg (by omega)];rw[show 100*(k / 100)+10*(k / 10%10)+k%10=k by omega]
theorem KJ (s:St) (n:Int) (l:List UInt8) (r:List (List UInt8)):yz s n (l::r)=if(vN s l n).2=0 then yz (vN s l n).1 (n+1) r else(s,n,(vN s l n).2):=rfl
theorem dX: ∀ (a b:List (List UInt8)) (s:St) (n:Int),yz s n (a++b)=if(yz s n a).2.2=0 then yz (yz s n a).1 (n+a.length) b else yz s n a
 |[],b,s,n=>by simp[yz]
 |l::a,b,s,n=>by
  rw[List.cons_append,KJ,KJ];by_cases h:(vN s l n).2=0
  · rw[if_pos h,if_pos h,dX a b,List.length_cons,show n+1+(a.length:Int)=n+((a.length+1:Nat):Int) by omega]
  · rw[if_neg h,if_neg h,if_neg h]
def wu (s:St) (rows:List (List UInt8)) (s':St->Prop):Prop:= ∀ n:Int,0<n-> ∃ q,yz s n rows=(q,0,0)/\s' q
theorem yO {s:St} {S:St->Prop} (h:S s):wu s [] S:=fun _ _=>⟨s,rfl,h⟩
theorem zY {s:St} {a b:List (List UInt8)} {A S:St->Prop} (h:wu s a A) (k: ∀ q,A q->wu q b S):wu s (a++b) S:=fun n hn=>by
 obtain⟨q,h1,h2⟩:=h n hn;obtain⟨q',h3,h4⟩:=k q h2 (n+a.length) (by omega);refine⟨q', ?_,h4⟩;rw[dX,h1,if_pos rfl];exact h3
theorem jv {s:St} {a:List (List UInt8)} {A B:St->Prop} (h:wu s a A) (k: ∀ q,A q->B q):wu s a B:=fun n hn=>by
 obtain⟨q,h1,h2⟩:=h n hn;exact⟨q,h1,k q h2⟩
theorem Dl {s:St} {f:List (List UInt8)} {k:Nat} {S:St->Prop} (hs:yM (jZ f)=(f,0)) (hne:jZ f≠[]) (h35:(jZ f).head?≠some 35) (hk:ZM (yK f 0)=some k) (hc:f.length=wM k) (ho:k=10->s.opened=true) (hr:k=11->s.rules<=0)
  (h: ∀ n:Int,0<n->(qy s k f n).2=0/\S (qy s k f n).1):wu s [jZ f] S:=fun n hn=>by
 have hl:vN s (jZ f) n=qy s k f n:=by
  unfold vN;rw[if_neg (fun e=>e.elim hne h35),hs,if_neg (by simp)];simp only[hk];rw[if_neg (by simp[hc]),if_neg (fun e=>by rw[ho e.1]at e;exact absurd e.2 (by decide)),if_neg (fun e=>by have:=hr e.1;omega)]
 obtain⟨h1,h2⟩:=h n hn;refine⟨(qy s k f n).1, ?_,h2⟩;rw[KJ,hl,if_pos h1];rfl
theorem dU: ∀ (l:List (List UInt8)) (n:Nat),(∀ x∈l,x.length<=n)->(kK l).length<=l.length*(4*n+3)
 |[],n,_=>by simp[kK]
 |[x],n,h=>by
  have h1:=YJ x;have h2:=h x (by simp);show(zg x).length<=1*(4*n+3)
  omega
 |x::y::r,n,h=>by
  have h1:=YJ x;have h2:=h x (by simp);have h3:=dU (y::r) n (fun z hz=>h z (List.mem_cons_of_mem _ hz));rw[yx x (by simp),List.length_append,List.length_cons,List.length_cons (a:=x),Nat.succ_mul];omega
theorem oO {f:List (List UInt8)} (h1:f.length<=7) (h: ∀ x∈f,x.length<=100):zL f=(kK f,0):=by
 have:=dU f 100 h;have:f.length*(4*100+3)<=7*403:=Nat.mul_le_mul_right _ h1;unfold zL;rw[if_neg (by omega),if_neg (by omega)]
theorem Du {f:List (List UInt8)} (h1:f.length<=7) (h: ∀ x∈f,x.length<=100):yM (jZ f)=(f,0):=by
 have e:=oO h1 h;exact ut (by unfold jZ;rw[e])
theorem nJ: ∀ k:Fin 12,zg (kw k.val)=kw k.val/\(kw k.val)≠[]/\(kw k.val).head?≠some 35/\(kw k.val).length<=9/\ZM (kw k.val)=some k.val:=by decide+kernel
theorem H7 {k:Nat} (hk:k<12) {r:List (List UInt8)} (hr:r≠[]) (h1:(kw k::r).length<=7) (h: ∀ x∈kw k::r,x.length<=100):jZ (kw k::r)≠[]/\(jZ (kw k::r)).head?≠some 35:=by
 obtain⟨q1,q2,q3,-⟩:=nJ ⟨k,hk⟩;have q1:zg (kw k)=kw k:=q1;have q2:kw k≠[]:=q2;have q3:(kw k).head?≠some 35:=q3;unfold jZ;rw[oO h1 h];show kK (kw k::r)≠[]/\(kK (kw k::r)).head?≠some 35
 rw[yx _ hr,q1];cases hx:kw k with
 |nil=>exact absurd hx q2
 |cons c t=>
  rw[hx]at q3;exact⟨by simp,by simpa using q3⟩
theorem yP {s:St} {k:Nat} (hk:k<12) {r:List (List UInt8)} (hr:r≠[]) {S:St->Prop} (hc:(kw k::r).length=wM k) (hlen: ∀ x∈r,x.length<=100) (ho:k=10->s.opened=true) (hru:k=11->s.rules<=0)
  (h: ∀ n:Int,0<n->(qy s k (kw k::r) n).2=0/\S (qy s k (kw k::r) n).1):wu s [jZ (kw k::r)] S:=by
 obtain⟨-,-,-,q4,q5⟩:=nJ ⟨k,hk⟩;have q4:(kw k).length<=9:=q4;have q5:ZM (kw k)=some k:=q5;have h7:(kw k::r).length<=7:=by
  rw[hc];have:k=0∨k=1∨k=2∨k=3∨k=4∨k=5∨k=6∨k=7∨k=8∨k=9∨k=10∨k=11:=by omega
  rcases this with rfl|rfl|rfl|rfl|rfl|rfl|rfl|rfl|rfl|rfl|rfl|rfl<;>decide
 have hl: ∀ x∈kw k::r,x.length<=100:=fun x hx=>by
  rcases List.mem_cons.1 hx with rfl|hx
  · omega
  · exact hlen x hx
 obtain⟨h1,h2⟩:=H7 hk hr h7 hl;exact Dl (Du h7 hl) h1 h2 q5 hc ho hru h
theorem xg {n:Int} (h:Ii n):kF (jO n)=(n,0):=uO n h.1 h.2
theorem WH: ∀ (xs:List ZH),(∀ x∈xs,x.id.length<=32/\Ii x.zone/\Ii x.change)-> ∀ s:St,
  wu s (xs.map fun x=>jZ [kw 0,x.id,jO x.zone,kG x.free,jO x.change]) (fun q=>q.t={ s.t with stops:=s.t.stops++xs }/\q.rules=s.rules)
 |[],_,s=>by
  refine yO ?_;exact⟨by rw[List.append_nil],rfl⟩
 |x::xs,h,s=>by
  obtain⟨h1,h2,h3⟩:=h x (List.mem_cons_self ..);have hl2:=Qd h2;have hl3:=Qd h3;refine zY (a:=[_]) (A:=fun q=>q.t={ s.t with stops:=s.t.stops++[x] }/\q.rules=s.rules) (yP (by decide) (by simp) rfl (fun y hy=>?_) (fun e=>absurd e (by decide)) (fun e=>absurd e (by decide)) (fun n hn=>?_)) (fun q hq=>?_)
  ·
   simp only[List.mem_cons,List.not_mem_nil,or_false]at hy;rcases hy with rfl|rfl|rfl|rfl
   · omega
   · exact hl2
   · cases x.free<;>decide
   · exact hl3
  ·
   have e:(⟨x.id,(kF (jO x.zone)).1,(yI (kG x.free)).1,(kF (jO x.change)).1⟩:ZH)=x:=by rw[xg h2,xg h3,xZ]
   refine⟨?_,congrArg (fun y=>({ s.t with stops:=s.t.stops++[y] }:TtD)) e,rfl⟩;show zT [(kF (jO x.zone)).2,(yI (kG x.free)).2,(kF (jO x.change)).2]=0
   rw[xg h2,xg h3,xZ];rfl
  ·
   refine jv (WH xs (fun y hy=>h y (List.mem_cons_of_mem _ hy)) q) (fun q' hq'=>?_);obtain⟨e1,e2⟩:=hq;obtain⟨e3,e4⟩:=hq';refine⟨?_,e4.trans e2⟩;rw[e3,e1];simp
theorem vZ {ids:List (List UInt8)} (h: ∀ x∈ids,x.length<=32) {i:Int}:(jF ids i).length<=100:=by
 unfold jF;rw[List.getD_eq_getElem?_getD];cases hx:ids[i.toNat]? with
 |none=>simp
 |some y=>have:=h y (List.mem_of_getElem? hx);simp;omega
theorem Bq (b:Bool):(if b then yN else jM).length<=100:=by cases b<;>decide
theorem VI: ∀ (xs:List xy),(∀ x∈xs,x.id.length<=32/\(0<=x.mode/\x.mode<=7))-> ∀ s:St,
  wu s (xs.map fun x=>jZ [kw 1,x.id,Qe x.mode,kG x.bikes]) (fun q=>q.t={ s.t with routes:=s.t.routes++xs }/\q.rules=s.rules)
 |[],_,s=>by
  refine yO ?_;exact⟨by rw[List.append_nil],rfl⟩
 |x::xs,h,s=>by
  obtain⟨h1,h2⟩:=h x (List.mem_cons_self ..);refine zY (a:=[_]) (A:=fun q=>q.t={ s.t with routes:=s.t.routes++[x] }/\q.rules=s.rules) (yP (by decide) (by simp) rfl (fun y hy=>?_) (fun e=>absurd e (by decide)) (fun e=>absurd e (by decide)) (fun n hn=>?_)) (fun q hq=>?_)
  ·
   simp only[List.mem_cons,List.not_mem_nil,or_false]at hy;rcases hy with rfl|rfl|rfl
   · omega
   · exact nR h2
   · exact Jo _
  ·
   have e:(⟨x.id,(KL (Qe x.mode)).1,(yI (kG x.bikes)).1⟩:xy)=x:=by rw[dh h2,xZ]
   refine⟨?_,congrArg (fun y=>({ s.t with routes:=s.t.routes++[y] }:TtD)) e,rfl⟩;show zT [(KL (Qe x.mode)).2,(yI (kG x.bikes)).2]=0
   rw[dh h2,xZ];rfl
  ·
   refine jv (VI xs (fun y hy=>h y (List.mem_cons_of_mem _ hy)) q) (fun q' hq'=>?_);obtain⟨e1,e2⟩:=hq;obtain⟨e3,e4⟩:=hq';refine⟨?_,e4.trans e2⟩;rw[e3,e1];simp
theorem aC: ∀ (xs:List Yj),(∀ x∈xs,x.id.length<=32/\(0<=x.frm/\x.frm<=36524)/\(0<=x.to/\x.to<=36524))-> ∀ s:St,
  wu s (xs.map fun x=>jZ [kw 2,x.id,Qk x.week,(jb x.frm).1,(jb x.to).1]) (fun q=>q.t={ s.t with cals:=s.t.cals++xs }/\q.rules=s.rules)
 |[],_,s=>by
  refine yO ?_;exact⟨by rw[List.append_nil],rfl⟩
 |x::xs,h,s=>by
  obtain⟨h1,h2,h3⟩:=h x (List.mem_cons_self ..);refine zY (a:=[_]) (A:=fun q=>q.t={ s.t with cals:=s.t.cals++[x] }/\q.rules=s.rules) (yP (by decide) (by simp) rfl (fun y hy=>?_) (fun e=>absurd e (by decide)) (fun e=>absurd e (by decide)) (fun n hn=>?_)) (fun q hq=>?_)
  ·
   simp only[List.mem_cons,List.not_mem_nil,or_false]at hy;rcases hy with rfl|rfl|rfl|rfl
   · omega
   · exact rH _
   · exact ZL
   · exact ZL
  ·
   have e:(⟨x.id,(JR (Qk x.week)).1,(wB ((jb x.frm).1)).1,(wB ((jb x.to).1)).1⟩:Yj)=x:=by rw[fJ,ZB h2,ZB h3]
   refine⟨?_,congrArg (fun y=>({ s.t with cals:=s.t.cals++[y] }:TtD)) e,rfl⟩;show zT [(JR (Qk x.week)).2,(wB ((jb x.frm).1)).2,(wB ((jb x.to).1)).2]=0
   rw[fJ,ZB h2,ZB h3];rfl
  ·
   refine jv (aC xs (fun y hy=>h y (List.mem_cons_of_mem _ hy)) q) (fun q' hq'=>?_);obtain⟨e1,e2⟩:=hq;obtain⟨e3,e4⟩:=hq';refine⟨?_,e4.trans e2⟩;rw[e3,e1];simp
theorem aF (icals:List (List UInt8)) (ncals:icals.Nodup) (lcals: ∀ x∈icals,x.length<=32): ∀ (xs:List Yk),(∀ x∈xs,(0<=x.cal/\x.cal<icals.length)/\(0<=x.day/\x.day<=36524))-> ∀ s:St,s.t.cals.map (·.id)=icals->
  wu s (xs.map fun x=>jZ [kw 3,jF icals x.cal,(jb x.day).1,if x.added then yN else jM]) (fun q=>q.t={ s.t with excs:=s.t.excs++xs }/\q.rules=s.rules)
 |[],_,s,_=>by
  refine yO ?_;exact⟨by rw[List.append_nil],rfl⟩
 |x::xs,h,s,rcals=>by
  obtain⟨h1,h2⟩:=h x (List.mem_cons_self ..);refine zY (a:=[_]) (A:=fun q=>q.t={ s.t with excs:=s.t.excs++[x] }/\q.rules=s.rules) (yP (by decide) (by simp) rfl (fun y hy=>?_) (fun e=>absurd e (by decide)) (fun e=>absurd e (by decide)) (fun n hn=>?_)) (fun q hq=>?_)
  ·
   simp only[List.mem_cons,List.not_mem_nil,or_false]at hy;rcases hy with rfl|rfl|rfl
   · exact vZ lcals
   · exact ZL
   · exact Bq _
  ·
   have e:(⟨(zW (s.t.cals.map (·.id)) (jF icals x.cal)).1,(wB ((jb x.day).1)).1,(Qu yN jM (if x.added then yN else jM)).1⟩:Yk)=x:=by rw[rcals,zo ncals h1,ZB h2,XA]
   refine⟨?_,congrArg (fun y=>({ s.t with excs:=s.t.excs++[y] }:TtD)) e,rfl⟩;show zT [(zW (s.t.cals.map (·.id)) (jF icals x.cal)).2,(wB ((jb x.day).1)).2,(Qu yN jM (if x.added then yN else jM)).2]=0
   rw[rcals,zo ncals h1,ZB h2,XA];rfl
  ·
   refine jv (aF icals ncals lcals xs (fun y hy=>h y (List.mem_cons_of_mem _ hy)) q (by rw[hq.1];exact rcals)) (fun q' hq'=>?_);obtain⟨e1,e2⟩:=hq;obtain⟨e3,e4⟩:=hq';refine⟨?_,e4.trans e2⟩;rw[e3,e1];simp
theorem WI (itrips:List (List UInt8)) (ntrips:itrips.Nodup) (ltrips: ∀ x∈itrips,x.length<=32): ∀ (xs:List Yo),(∀ x∈xs,(0<=x.frm/\x.frm<itrips.length)/\(0<=x.to/\x.to<itrips.length))-> ∀ s:St,s.t.trips.map (·.id)=itrips->
  wu s (xs.map fun x=>jZ [kw 6,jF itrips x.frm,jF itrips x.to]) (fun q=>q.t={ s.t with thrus:=s.t.thrus++xs }/\q.rules=s.rules)
 |[],_,s,_=>by
  refine yO ?_;exact⟨by rw[List.append_nil],rfl⟩
 |x::xs,h,s,rtrips=>by
  obtain⟨h1,h2⟩:=h x (List.mem_cons_self ..);refine zY (a:=[_]) (A:=fun q=>q.t={ s.t with thrus:=s.t.thrus++[x] }/\q.rules=s.rules) (yP (by decide) (by simp) rfl (fun y hy=>?_) (fun e=>absurd e (by decide)) (fun e=>absurd e (by decide)) (fun n hn=>?_)) (fun q hq=>?_)
  ·
   simp only[List.mem_cons,List.not_mem_nil,or_false]at hy;rcases hy with rfl|rfl
   · exact vZ ltrips
   · exact vZ ltrips
  ·
   have e:(⟨(zW (s.t.trips.map (·.id)) (jF itrips x.frm)).1,(zW (s.t.trips.map (·.id)) (jF itrips x.to)).1⟩:Yo)=x:=by rw[rtrips,zo ntrips h1,zo ntrips h2]
   refine⟨?_,congrArg (fun y=>({ s.t with thrus:=s.t.thrus++[y] }:TtD)) e,rfl⟩;show zT [(zW (s.t.trips.map (·.id)) (jF itrips x.frm)).2,(zW (s.t.trips.map (·.id)) (jF itrips x.to)).2]=0
   rw[rtrips,zo ntrips h1,zo ntrips h2];rfl
  ·
   refine jv (WI itrips ntrips ltrips xs (fun y hy=>h y (List.mem_cons_of_mem _ hy)) q (by rw[hq.1];exact rtrips)) (fun q' hq'=>?_);obtain⟨e1,e2⟩:=hq;obtain⟨e3,e4⟩:=hq';refine⟨?_,e4.trans e2⟩;rw[e3,e1];simp
theorem WC (itrips:List (List UInt8)) (ntrips:itrips.Nodup) (ltrips: ∀ x∈itrips,x.length<=32) (istops:List (List UInt8)) (nstops:istops.Nodup) (lstops: ∀ x∈istops,x.length<=32): ∀ (xs:List wL),(∀ x∈xs,(0<=x.frm/\x.frm<itrips.length)/\(0<=x.to/\x.to<itrips.length)/\(0<=x.stop/\x.stop<istops.length))-> ∀ s:St,s.t.trips.map (·.id)=itrips->s.t.stops.map (·.id)=istops->
  wu s (xs.map fun x=>jZ [kw 7,jF itrips x.frm,jF itrips x.to,jF istops x.stop]) (fun q=>q.t={ s.t with guars:=s.t.guars++xs }/\q.rules=s.rules)
 |[],_,s,_,_=>by
  refine yO ?_;exact⟨by rw[List.append_nil],rfl⟩
 |x::xs,h,s,rtrips,rstops=>by
  obtain⟨h1,h2,h3⟩:=h x (List.mem_cons_self ..);refine zY (a:=[_]) (A:=fun q=>q.t={ s.t with guars:=s.t.guars++[x] }/\q.rules=s.rules) (yP (by decide) (by simp) rfl (fun y hy=>?_) (fun e=>absurd e (by decide)) (fun e=>absurd e (by decide)) (fun n hn=>?_)) (fun q hq=>?_)
  ·
   simp only[List.mem_cons,List.not_mem_nil,or_false]at hy;rcases hy with rfl|rfl|rfl
   · exact vZ ltrips
   · exact vZ ltrips
   · exact vZ lstops
  ·
   have e:(⟨(zW (s.t.trips.map (·.id)) (jF itrips x.frm)).1,(zW (s.t.trips.map (·.id)) (jF itrips x.to)).1,(zW (s.t.stops.map (·.id)) (jF istops x.stop)).1⟩:wL)=x:=by rw[rtrips,rstops,zo ntrips h1,zo ntrips h2,zo nstops h3]
   refine⟨?_,congrArg (fun y=>({ s.t with guars:=s.t.guars++[y] }:TtD)) e,rfl⟩;show zT [(zW (s.t.trips.map (·.id)) (jF itrips x.frm)).2,(zW (s.t.trips.map (·.id)) (jF itrips x.to)).2,(zW (s.t.stops.map (·.id)) (jF istops x.stop)).2]=0
   rw[rtrips,rstops,zo ntrips h1,zo ntrips h2,zo nstops h3];rfl
  ·
   refine jv (WC itrips ntrips ltrips istops nstops lstops xs (fun y hy=>h y (List.mem_cons_of_mem _ hy)) q (by rw[hq.1];exact rtrips) (by rw[hq.1];exact rstops)) (fun q' hq'=>?_);obtain⟨e1,e2⟩:=hq;obtain⟨e3,e4⟩:=hq';refine⟨?_,e4.trans e2⟩;rw[e3,e1];simp
theorem WB (itrips:List (List UInt8)) (ntrips:itrips.Nodup) (ltrips: ∀ x∈itrips,x.length<=32) (hdur: ∀ n:Int,0<=n/\n<=359999->wE (jc n)=(n,0)): ∀ (xs:List Yl),(∀ x∈xs,(0<=x.trip/\x.trip<itrips.length)/\(0<=x.frm/\x.frm<=172800)/\(0<=x.to/\x.to<=172800)/\(0<=x.every/\x.every<=359999))-> ∀ s:St,s.t.trips.map (·.id)=itrips->
  wu s (xs.map fun x=>jZ [kw 5,jF itrips x.trip,(xU x.frm).1,(xU x.to).1,jc x.every]) (fun q=>q.t={ s.t with freqs:=s.t.freqs++xs }/\q.rules=s.rules)
 |[],_,s,_=>by
  refine yO ?_;exact⟨by rw[List.append_nil],rfl⟩
 |x::xs,h,s,rtrips=>by
  obtain⟨h1,h2,h3,h4⟩:=h x (List.mem_cons_self ..);refine zY (a:=[_]) (A:=fun q=>q.t={ s.t with freqs:=s.t.freqs++[x] }/\q.rules=s.rules) (yP (by decide) (by simp) rfl (fun y hy=>?_) (fun e=>absurd e (by decide)) (fun e=>absurd e (by decide)) (fun n hn=>?_)) (fun q hq=>?_)
  ·
   simp only[List.mem_cons,List.not_mem_nil,or_false]at hy;rcases hy with rfl|rfl|rfl|rfl
   · exact vZ ltrips
   · exact Zj
   · exact Zj
   · exact Zh
  ·
   have e:(⟨(zW (s.t.trips.map (·.id)) (jF itrips x.trip)).1,(jw ((xU x.frm).1)).1,(jw ((xU x.to).1)).1,(wE (jc x.every)).1⟩:Yl)=x:=by rw[rtrips,zo ntrips h1,wJ h2,wJ h3,hdur _ h4]
   refine⟨?_,congrArg (fun y=>({ s.t with freqs:=s.t.freqs++[y] }:TtD)) e,rfl⟩;show zT [(zW (s.t.trips.map (·.id)) (jF itrips x.trip)).2,(jw ((xU x.frm).1)).2,(jw ((xU x.to).1)).2,(wE (jc x.every)).2]=0
   rw[rtrips,zo ntrips h1,wJ h2,wJ h3,hdur _ h4];rfl
  ·
   refine jv (WB itrips ntrips ltrips hdur xs (fun y hy=>h y (List.mem_cons_of_mem _ hy)) q (by rw[hq.1];exact rtrips)) (fun q' hq'=>?_);obtain⟨e1,e2⟩:=hq;obtain⟨e3,e4⟩:=hq';refine⟨?_,e4.trans e2⟩;rw[e3,e1];simp
theorem WE (istops:List (List UInt8)) (nstops:istops.Nodup) (lstops: ∀ x∈istops,x.length<=32) (hdur: ∀ n:Int,0<=n/\n<=359999->wE (jc n)=(n,0)): ∀ (xs:List Qq),(∀ x∈xs,(0<=x.frm/\x.frm<istops.length)/\(0<=x.to/\x.to<istops.length)/\(0<=x.secs/\x.secs<=359999))-> ∀ s:St,s.t.stops.map (·.id)=istops->
  wu s (xs.map fun x=>jZ [kw 8,jF istops x.frm,jF istops x.to,jc x.secs,kG x.free]) (fun q=>q.t={ s.t with paths:=s.t.paths++xs }/\q.rules=s.rules)
 |[],_,s,_=>by
  refine yO ?_;exact⟨by rw[List.append_nil],rfl⟩
 |x::xs,h,s,rstops=>by
  obtain⟨h1,h2,h3⟩:=h x (List.mem_cons_self ..);refine zY (a:=[_]) (A:=fun q=>q.t={ s.t with paths:=s.t.paths++[x] }/\q.rules=s.rules) (yP (by decide) (by simp) rfl (fun y hy=>?_) (fun e=>absurd e (by decide)) (fun e=>absurd e (by decide)) (fun n hn=>?_)) (fun q hq=>?_)
  ·
   simp only[List.mem_cons,List.not_mem_nil,or_false]at hy;rcases hy with rfl|rfl|rfl|rfl
   · exact vZ lstops
   · exact vZ lstops
   · exact Zh
   · exact Jo _
  ·
   have e:(⟨(zW (s.t.stops.map (·.id)) (jF istops x.frm)).1,(zW (s.t.stops.map (·.id)) (jF istops x.to)).1,(wE (jc x.secs)).1,(yI (kG x.free)).1⟩:Qq)=x:=by rw[rstops,zo nstops h1,zo nstops h2,hdur _ h3,xZ]
   refine⟨?_,congrArg (fun y=>({ s.t with paths:=s.t.paths++[y] }:TtD)) e,rfl⟩;show zT [(zW (s.t.stops.map (·.id)) (jF istops x.frm)).2,(zW (s.t.stops.map (·.id)) (jF istops x.to)).2,(wE (jc x.secs)).2,(yI (kG x.free)).2]=0
   rw[rstops,zo nstops h1,zo nstops h2,hdur _ h3,xZ];rfl
  ·
   refine jv (WE istops nstops lstops hdur xs (fun y hy=>h y (List.mem_cons_of_mem _ hy)) q (by rw[hq.1];exact rstops)) (fun q' hq'=>?_);obtain⟨e1,e2⟩:=hq;obtain⟨e3,e4⟩:=hq';refine⟨?_,e4.trans e2⟩;rw[e3,e1];simp
end Go.Proofs.YtakedkcjplfgeaaGreatDoor.Tt
namespace Go.Proofs.YtakedkcjplfgeaaGreatDoor.Tt
open Num Clk Dat
theorem Cm (c:UInt8) (l:List UInt8) (h:c∉l):Lib.index l [c]= -1:=by
 induction l with
 |nil=>rfl
 |cons b l ih=>
  rw[List.mem_cons,not_or]at h;unfold Lib.index;rw[if_neg (by simp[h.1]),ih h.2];rfl
theorem GL (c:UInt8) (a b:List UInt8) (h:c∉a):Lib.index (a++c::b) [c]=a.length:=by
 induction a with
 |nil=>unfold Lib.index;simp
 |cons x a ih=>
  rw[List.mem_cons,not_or]at h;rw[List.cons_append];unfold Lib.index;rw[if_neg (by simp[h.1]),ih h.2,if_neg (by simp)];simp
theorem Ae {c:UInt8} {l:List UInt8} (h:c∉l):Lib.cut l [c]=(l,[],false):=by
 unfold Lib.cut;rw[Cm c l h,if_neg (by decide)]
theorem ry {c:UInt8} {a b:List UInt8} (h:c∉a):Lib.cut (a++c::b) [c]=(a,b,true):=by
 unfold Lib.cut;rw[GL c a b h,if_pos (by omega)];simp
theorem iZ (u:List UInt8):Lib.hasSuffix (u++[115]) [115]=true:=by
 unfold Lib.hasSuffix;rw[List.isSuffixOf_iff_suffix];exact⟨u,rfl⟩
theorem ik (u:List UInt8):Lib.trimSuffix (u++[115]) [115]=u:=by
 unfold Lib.trimSuffix;rw[if_pos (iZ u)];simp
theorem Dc {a:List UInt8} (h:(109:UInt8)∉a):yL (a++[115])=some [a]:=by
 unfold yL;rw[if_pos (iZ a),ik,Ae h,if_neg (by simp)]
theorem Df {a b:List UInt8} (h:(109:UInt8)∉a) (h2:(104:UInt8)∉a):yL (a++109::(b++[115]))=some [a,b]:=by
 unfold yL;rw[show a++109::(b++[115])=(a++109::b)++[115] by simp,if_pos (iZ _),ik,ry h,if_pos rfl];dsimp only
 rw[Ae h2,if_neg (by simp)]
theorem oC {a b c:List UInt8} (h:(109:UInt8)∉a) (h2:(104:UInt8)∉a) (h3:(109:UInt8)∉b):yL (a++104::(b++109::(c++[115])))=some [a,b,c]:=by
 unfold yL;rw[show a++104::(b++109::(c++[115]))=((a++104::b)++109::c)++[115] by simp,if_pos (iZ _),ik,ry (by simp[h,h3]),if_pos rfl];dsimp only
 rw[ry h2,if_pos rfl]
theorem gJ {l:List UInt8} (h:zC l=true) {c:UInt8} (hc:57<c.toNat):c∉l:=by
 intro k;unfold zC at h;rw[List.all_eq_true]at h;have:=h c k;rw[jg]at this;omega
theorem cO {l:List UInt8} (h:zN l=true):zC l=true:=by
 unfold zN at h;rw[Bool.and_eq_true,Bool.and_eq_true]at h;exact h.1.1
theorem NJ (n:Nat) (h:n<100):zC (ZW n)=true:=by
 obtain⟨h1,h2,_⟩:=vV n h;unfold ZW zC;simp only[List.all_cons,List.all_nil,h1,h2,Bool.and_true]
theorem Xa (n:Nat) (h:n<60):wF (ZW n)=((n:Int),true):=by
 obtain⟨h1,h2,h3⟩:=vV n (by omega);have:=zi (n / 10) (by omega);unfold ZW wF;dsimp only
 rw[if_pos ⟨h1,h2,by omega⟩,h3]
theorem Xm (n:Nat) (h:n<=1000000):xB (qL n)=((n:Int),true):=by
 unfold xB;rw[if_pos (kP n),xE,Nat.min_eq_right h]
theorem Dj (n:Nat) (h:n<=359999):wE (kJ n)=((n:Int),0):=by
 have c1:=fun k=>gJ (cO (kP k)) (c:=109) (by decide)
 have c2:=fun k=>gJ (cO (kP k)) (c:=104) (by decide)
 have t3:(109:UInt8)∉ZW (n / 60%60):=gJ (NJ _ (by omega)) (by decide);unfold wE;by_cases h1:3600<=n
 ·
  rw[show kJ n=qL (n / 3600)++104::(ZW (n / 60%60)++109::(ZW (n%60)++[115])) by unfold kJ;rw[if_pos h1],oC (c1 _) (c2 _) t3];dsimp only[bQ]
  rw[Xm _ (by omega),Xa _ (by omega),Xa _ (by omega)];dsimp only
  rw[if_pos ⟨rfl,by omega,rfl,rfl⟩,if_pos (by omega),Prod.mk.injEq];exact⟨by omega,rfl⟩
 ·
  by_cases h2:60<=n
  ·
   rw[show kJ n=qL (n / 60)++109::(ZW (n%60)++[115]) by unfold kJ;rw[if_neg h1,if_pos h2],Df (c1 _) (c2 _)];dsimp only[bQ]
   rw[Xm _ (by omega),Xa _ (by omega)];dsimp only
   rw[if_pos ⟨rfl,by omega,by omega,rfl⟩,Prod.mk.injEq];exact⟨by omega,rfl⟩
  ·
   rw[show kJ n=qL n++[115] by unfold kJ;rw[if_neg h1,if_neg h2],Dc (c1 _)];dsimp only[bQ]
   rw[Xm _ (by omega)];dsimp only
   rw[if_pos ⟨rfl,by omega⟩]
theorem JC (n:Int) (h:0<=n/\n<=359999):wE (jc n)=(n,0):=by
 unfold jc;rw[if_pos h,Dj n.toNat (by omega)];simp[Int.toNat_of_nonneg h.1]
open Frq Thr Fld
theorem WG: ∀ (xs:List JA),(∀ x∈xs,x.id.length<=32/\(0<=x.price/\x.price<=1000000)/\Ii x.rides/\Ii x.zones/\(0<=x.secs/\x.secs<=359999)/\(0<=x.modes/\x.modes<=255))-> ∀ s:St,
  wu s (xs.map fun x=>jZ [kw 9,x.id,(qW x.price).1,jO x.rides,jO x.zones,jc x.secs,vU x.modes]) (fun q=>q.t={ s.t with fares:={ s.t.fares with prods:=s.t.fares.prods++xs } }/\q.rules=s.rules)
 |[],_,s=>by
  refine yO ?_;exact⟨by rw[List.append_nil],rfl⟩
 |x::xs,h,s=>by
  obtain⟨h1,h2,h3,h4,h5,h6⟩:=h x (List.mem_cons_self ..);have l3:=Qd h3;have l4:=Qd h4;refine zY (a:=[_]) (A:=fun q=>q.t={ s.t with fares:={ s.t.fares with prods:=s.t.fares.prods++[x] } }/\q.rules=s.rules) (yP (by decide) (by simp) rfl (fun y hy=>?_) (fun e=>absurd e (by decide)) (fun e=>absurd e (by decide)) (fun n hn=>?_)) (fun q hq=>?_)
  ·
   simp only[List.mem_cons,List.not_mem_nil,or_false]at hy;rcases hy with rfl|rfl|rfl|rfl|rfl|rfl
   · omega
   · exact ZG
   · exact l3
   · exact l4
   · exact Zh
   · exact dm h6
  ·
   have e:(⟨x.id,(jr (qW x.price).1).1,(kF (jO x.rides)).1,(kF (jO x.zones)).1,(wE (jc x.secs)).1,(QR (vU x.modes)).1⟩:JA)=x:=by rw[xk h2,xg h3,xg h4,JC _ h5,Xt h6]
   refine⟨?_,congrArg (fun y=>({ s.t with fares:={ s.t.fares with prods:=s.t.fares.prods++[y] } }:TtD)) e,rfl⟩;show zT [(jr (qW x.price).1).2,(kF (jO x.rides)).2,(kF (jO x.zones)).2,(wE (jc x.secs)).2,(QR (vU x.modes)).2]=0
   rw[xk h2,xg h3,xg h4,JC _ h5,Xt h6];rfl
  ·
   refine jv (WG xs (fun y hy=>h y (List.mem_cons_of_mem _ hy)) q) (fun q' hq'=>?_);obtain⟨e1,e2⟩:=hq;obtain⟨e3,e4⟩:=hq';refine⟨?_,e4.trans e2⟩;rw[e3,e1];simp
theorem oK (f:Jp) (h1:0<=f.disc/\f.disc<=1000000) (h2:0<=f.within/\f.within<=359999) (h3:0<=f.cap/\f.cap<=1000000) (s:St) (hs:s.rules<=0) (hz:s.t.fares=⟨[],0,0,0⟩):
  wu s (if f.disc=0/\f.within=0/\f.cap=0 then[]else[jZ [kw 11,(qW f.disc).1,jc f.within,(qW f.cap).1]]) (fun q=>q.t={ s.t with fares:=⟨[],f.disc,f.within,f.cap⟩ }):=by
 split
 ·
  rename_i h;obtain⟨z1,z2,z3⟩:=h;refine yO ?_;rw[z1,z2,z3,<-hz]
 ·
  refine yP (by decide) (by simp) rfl (fun y hy=>?_) (fun e=>absurd e (by decide)) (fun _=>hs) (fun n hn=>?_)
  ·
   simp only[List.mem_cons,List.not_mem_nil,or_false]at hy;rcases hy with rfl|rfl|rfl
   · exact ZG
   · exact Zh
   · exact ZG
  ·
   refine⟨?_, ?_⟩
   ·
    show zT [(jr (qW f.disc).1).2,(wE (jc f.within)).2,(jr (qW f.cap).1).2]=0
    rw[xk h1,JC _ h2,xk h3];rfl
   ·
    show({ s.t with fares:=⟨s.t.fares.prods,(jr (qW f.disc).1).1,(wE (jc f.within)).1,(jr (qW f.cap).1).1⟩ }:TtD)=_
    rw[xk h1,JC _ h2,xk h3,hz]
theorem fQ (ts:List TripX) (x:TripX) (c:CallD):kH (ts++[x]) c=ts++[{ x with calls:=x.calls++[c] }]:=by
 unfold kH;rw[List.getLast?_concat];simp only[List.dropLast_concat]
theorem WA (istops:List (List UInt8)) (nstops:istops.Nodup) (lstops: ∀ x∈istops,x.length<=32) (ts:List TripX) (x:TripX): ∀ (cs pre:List CallD),(∀ c∈cs,(0<=c.stop/\c.stop<istops.length)/\(0<=c.arrive/\c.arrive<=172800)/\(0<=c.depart/\c.depart<=172800))-> ∀ s:St,s.t.stops.map (·.id)=istops->s.opened=true->s.t.trips=ts++[{ x with calls:=pre }]->
  wu s (cs.map fun c=>jZ [kw 10,jF istops c.stop,(xU c.arrive).1,(xU c.depart).1,Qh c]) (fun q=>q.t={ s.t with trips:=ts++[{ x with calls:=pre++cs }] }/\q.rules=s.rules)
 |[],pre,_,s,_,_,ht=>by
  refine yO ?_;exact⟨by rw[List.append_nil,<-ht],rfl⟩
 |c::cs,pre,h,s,hs,ho,ht=>by
  obtain⟨h1,h2,h3⟩:=h c (List.mem_cons_self ..);refine zY (a:=[_]) (A:=fun q=>q.t={ s.t with trips:=ts++[{ x with calls:=pre++[c] }] }/\q.rules=s.rules/\q.opened=true) (yP (by decide) (by simp) rfl (fun y hy=>?_) (fun _=>ho) (fun e=>absurd e (by decide)) (fun n hn=>?_)) (fun q hq=>?_)
  ·
   simp only[List.mem_cons,List.not_mem_nil,or_false]at hy;rcases hy with rfl|rfl|rfl|rfl
   · exact vZ lstops
   · exact Zj
   · exact Zj
   · exact oG _
  ·
   have e:(⟨(zW (s.t.stops.map (·.id)) (jF istops c.stop)).1,(jw (xU c.arrive).1).1,(jw (xU c.depart).1).1,(Zp (Qh c)).1.1,(Zp (Qh c)).1.2⟩:CallD)=c:=by rw[hs,zo nstops h1,wJ h2,wJ h3,eP]
   refine⟨?_,(congrArg (fun y=>({ s.t with trips:=kH s.t.trips y }:TtD)) e).trans (by rw[ht,fQ]),rfl,rfl⟩;show zT [(zW (s.t.stops.map (·.id)) (jF istops c.stop)).2,(jw (xU c.arrive).1).2,(jw (xU c.depart).1).2,(Zp (Qh c)).2]=0
   rw[hs,zo nstops h1,wJ h2,wJ h3,eP];rfl
  ·
   obtain⟨e1,e2,e5⟩:=hq;refine jv (WA istops nstops lstops ts x cs (pre++[c]) (fun y hy=>h y (List.mem_cons_of_mem _ hy)) q (by rw[e1];exact hs) e5 (by rw[e1])) (fun q' hq'=>?_);obtain⟨e3,e4⟩:=hq';refine⟨?_,e4.trans e2⟩;rw[e3,e1];simp
theorem WJ (istops:List (List UInt8)) (nstops:istops.Nodup) (lstops: ∀ x∈istops,x.length<=32) (iroutes:List (List UInt8)) (nroutes:iroutes.Nodup) (lroutes: ∀ x∈iroutes,x.length<=32) (icals:List (List UInt8)) (ncals:icals.Nodup) (lcals: ∀ x∈icals,x.length<=32): ∀ (xs:List TripX),(∀ x∈xs,x.id.length<=32/\(0<=x.route/\x.route<iroutes.length)/\(0<=x.cal/\x.cal<icals.length)/\ ∀ c∈x.calls,(0<=c.stop/\c.stop<istops.length)/\(0<=c.arrive/\c.arrive<=172800)/\(0<=c.depart/\c.depart<=172800))-> ∀ s:St,s.t.stops.map (·.id)=istops->s.t.routes.map (·.id)=iroutes->s.t.cals.map (·.id)=icals->
  wu s (xs.flatMap fun x=>jZ [kw 4,x.id,jF iroutes x.route,jF icals x.cal,kG x.free]::x.calls.map fun c=>jZ [kw 10,jF istops c.stop,(xU c.arrive).1,(xU c.depart).1,Qh c]) (fun q=>q.t={ s.t with trips:=s.t.trips++xs }/\q.rules=s.rules)
 |[],_,s,_,_,_=>by
  refine yO ?_;exact⟨by rw[List.append_nil],rfl⟩
 |x::xs,h,s,rs,rr,rc=>by
  obtain⟨h1,h2,h3,h4⟩:=h x (List.mem_cons_self ..);rw[List.flatMap_cons];refine zY (A:=fun q=>q.t={ s.t with trips:=s.t.trips++[x] }/\q.rules=s.rules) ?_ (fun q hq=>?_)
  ·
   refine zY (a:=[_]) (A:=fun q=>q.t={ s.t with trips:=s.t.trips++[{ x with calls:=[] }] }/\q.rules=s.rules/\q.opened=true) (yP (by decide) (by simp) rfl (fun y hy=>?_) (fun e=>absurd e (by decide)) (fun e=>absurd e (by decide)) (fun n hn=>?_)) (fun q hq=>?_)
   ·
    simp only[List.mem_cons,List.not_mem_nil,or_false]at hy;rcases hy with rfl|rfl|rfl|rfl
    · omega
    · exact vZ lroutes
    · exact vZ lcals
    · exact Jo _
   ·
    have e:(⟨x.id,(zW (s.t.routes.map (·.id)) (jF iroutes x.route)).1,(zW (s.t.cals.map (·.id)) (jF icals x.cal)).1,(yI (kG x.free)).1,[]⟩:TripX)={ x with calls:=[] }:=by rw[rr,rc,zo nroutes h2,zo ncals h3,xZ]
    refine⟨?_,congrArg (fun y=>({ s.t with trips:=s.t.trips++[y] }:TtD)) e,rfl,rfl⟩;show zT [(zW (s.t.routes.map (·.id)) (jF iroutes x.route)).2,(zW (s.t.cals.map (·.id)) (jF icals x.cal)).2,(yI (kG x.free)).2]=0
    rw[rr,rc,zo nroutes h2,zo ncals h3,xZ];rfl
   ·
    obtain⟨e1,e2,e5⟩:=hq;refine jv (WA istops nstops lstops s.t.trips x x.calls [] h4 q (by rw[e1];exact rs) e5 (by rw[e1])) (fun q' hq'=>?_);obtain⟨e3,e4⟩:=hq';refine⟨?_,e4.trans e2⟩;rw[e3,e1];simp
  ·
   obtain⟨e1,e2⟩:=hq;refine jv (WJ istops nstops lstops iroutes nroutes lroutes icals ncals lcals xs (fun y hy=>h y (List.mem_cons_of_mem _ hy)) q (by rw[e1];exact rs) (by rw[e1];exact rr) (by rw[e1];exact rc)) (fun q' hq'=>?_);obtain⟨e3,e4⟩:=hq';refine⟨?_,e4.trans e2⟩;rw[e3,e1];simp
theorem uf {t:TtD} (v:AY t):wu start (JO t) (fun q=>q.t=t):=by
 have lstops: ∀ x∈t.stops.map (·.id),x.length<=32:=fun x hx=>by obtain⟨y,hy,rfl⟩:=List.mem_map.1 hx;exact(v.stops y hy).1
 have lroutes: ∀ x∈t.routes.map (·.id),x.length<=32:=fun x hx=>by obtain⟨y,hy,rfl⟩:=List.mem_map.1 hx;exact(v.routes y hy).1
 have lcals: ∀ x∈t.cals.map (·.id),x.length<=32:=fun x hx=>by obtain⟨y,hy,rfl⟩:=List.mem_map.1 hx;exact(v.cals y hy).1
 have ltrips: ∀ x∈t.trips.map (·.id),x.length<=32:=fun x hx=>by obtain⟨y,hy,rfl⟩:=List.mem_map.1 hx;exact(v.trips y hy).1
 have ms:(t.stops.map (·.id)).length=t.stops.length:=List.length_map ..;have mr:(t.routes.map (·.id)).length=t.routes.length:=List.length_map ..;have mc:(t.cals.map (·.id)).length=t.cals.length:=List.length_map ..;have mt:(t.trips.map (·.id)).length=t.trips.length:=List.length_map ..;unfold JO;refine zY (WH _ v.stops _) fun q1 ⟨t1,r1⟩=>?_
 have t1:q1.t={ emptyT with stops:=t.stops }:=t1;refine zY (VI _ v.routes _) fun q2 ⟨t2,r2⟩=>?_
 rw[t1]at t2;have t2:q2.t={ emptyT with stops:=t.stops,routes:=t.routes }:=t2;refine zY (aC _ v.cals _) fun q3 ⟨t3,r3⟩=>?_
 rw[t2]at t3;have t3:q3.t={ emptyT with stops:=t.stops,routes:=t.routes,cals:=t.cals }:=t3;refine zY (aF _ v.ncals lcals _ (by rw[mc];exact v.excs) _ (by rw[t3])) fun q4 ⟨t4,r4⟩=>?_
 rw[t3]at t4;have t4:q4.t={ emptyT with stops:=t.stops,routes:=t.routes,cals:=t.cals,excs:=t.excs }:=t4;refine zY (WJ _ v.nstops lstops _ v.nroutes lroutes _ v.ncals lcals _ (by rw[ms,mr,mc];exact v.trips) _ (by rw[t4]) (by rw[t4]) (by rw[t4])) fun q5 ⟨t5,r5⟩=>?_
 rw[t4]at t5;have t5:q5.t={ emptyT with stops:=t.stops,routes:=t.routes,cals:=t.cals,excs:=t.excs,trips:=t.trips }:=t5;refine zY (WB _ v.ntrips ltrips JC _ (by rw[mt];exact v.freqs) _ (by rw[t5])) fun q6 ⟨t6,r6⟩=>?_
 rw[t5]at t6;have t6:q6.t={ emptyT with stops:=t.stops,routes:=t.routes,cals:=t.cals,excs:=t.excs,trips:=t.trips,freqs:=t.freqs }:=t6;refine zY (WI _ v.ntrips ltrips _ (by rw[mt];exact v.thrus) _ (by rw[t6])) fun q7 ⟨t7,r7⟩=>?_
 rw[t6]at t7;have t7:q7.t={ emptyT with stops:=t.stops,routes:=t.routes,cals:=t.cals,excs:=t.excs,trips:=t.trips,freqs:=t.freqs,thrus:=t.thrus }:=t7;refine zY (WC _ v.ntrips ltrips _ v.nstops lstops _ (by rw[mt,ms];exact v.guars) _ (by rw[t7]) (by rw[t7])) fun q8 ⟨t8,r8⟩=>?_
 rw[t7]at t8;have t8:q8.t={ emptyT with stops:=t.stops,routes:=t.routes,cals:=t.cals,excs:=t.excs,trips:=t.trips,freqs:=t.freqs,thrus:=t.thrus,guars:=t.guars }:=t8;refine zY (WE _ v.nstops lstops JC _ (by rw[ms];exact v.paths) _ (by rw[t8])) fun q9 ⟨t9,r9⟩=>?_
 rw[t8]at t9;have t9:q9.t={ emptyT with stops:=t.stops,routes:=t.routes,cals:=t.cals,excs:=t.excs,trips:=t.trips,freqs:=t.freqs,thrus:=t.thrus,guars:=t.guars,paths:=t.paths }:=t9;have hr:q9.rules=0:=by rw[r9,r8,r7,r6,r5,r4,r3,r2,r1];rfl
 refine zY (oK t.fares v.fares.1 v.fares.2.1 v.fares.2.2 q9 (by omega) (by rw[t9];rfl)) fun q10 t10=>?_
 rw[t9]at t10;refine jv (WG _ v.prods _) fun q11 ⟨t11,_⟩=>?_
 rw[t11,t10];rfl
theorem ug {t:TtD} {s:List UInt8} (h:xI t=(s,0)):vC s=(t,0,0):=by
 unfold xI at h;split at h
 ·
  rename_i h0;rw[Prod.mk.injEq]at h;exact absurd h.2 h0
 ·
  rename_i h0;have hv:(Qj t).2.2=0:=Decidable.not_not.1 h0;have hl:=uB h;obtain⟨q,h1,h2⟩:=uf (rG hv) 1 (by decide);unfold vC;rw[hl,if_neg (by simp)];simp only[h1];rw[if_neg (by simp),h2,if_pos hv]
end Go.Proofs.YtakedkcjplfgeaaGreatDoor.Tt
namespace Go.Proofs.YtakedkcjplfgeaaGreatDoor.Fld
theorem Xd {n:Nat} (h:n<16):Ey (KE n)=false:=by
 unfold Ey;rw[Xe h];split
 · rw[decide_eq_false (by omega),Bool.false_or,beq_eq_false_iff_ne];omega
 · rw[decide_eq_false (by omega),Bool.false_or,beq_eq_false_iff_ne];omega
theorem V9 (o:List UInt8): ∀ b∈zg o,Ey b=false:=by
 cases h:jq o with
 |true=>
  rw[xm h];intro b hb;have:=ZR h b hb;unfold Qi at this;simp only[Bool.or_eq_false_iff]at this;exact this.2.2.2
 |false=>
  rw[JM h];intro b hb;rcases List.mem_cons.1 hb with rfl|hb
  · decide
  ·
   rcases List.mem_append.1 hb with hb|hb
   ·
    obtain⟨c,-,hc⟩:=List.mem_flatMap.1 hb;unfold xR at hc;split at hc
    ·
     rename_i h1;simp only[List.mem_cons,List.not_mem_nil,or_false]at hc;rcases hc with rfl|rfl
     · decide
     ·
      simp only[Bool.or_eq_true,beq_iff_eq]at h1;unfold Ey;rcases h1 with h1|h1<;>rw[h1]<;>decide
    ·
     split at hc
     ·
      have hb:=rD c;simp only[List.mem_cons,List.not_mem_nil,or_false]at hc;rcases hc with rfl|rfl|rfl|rfl
      · decide
      · decide
      · exact Xd (by omega)
      · exact Xd (by omega)
     ·
      rename_i h2;rw[List.mem_singleton]at hc;rw[hc];simpa using h2
   ·
    rw[List.mem_singleton]at hb;rw[hb];decide
end Go.Proofs.YtakedkcjplfgeaaGreatDoor.Fld
namespace Go.Proofs.YtakedkcjplfgeaaGreatDoor.Tt
open Num Clk Dat Frq Thr Fld
theorem ni {s:List UInt8} {t:TtD} {k e:Int} (h:vC s=(t,k,e)) (he:e≠0):t=emptyT:=by
 unfold vC at h;split at h
 · simp only[Prod.mk.injEq]at h;exact h.1.symm
 ·
  split at h
  · simp only[Prod.mk.injEq]at h;exact h.1.symm
  ·
   simp only at h;split at h
   · simp only[Prod.mk.injEq]at h;exact absurd h.2.2.symm he
   ·
    split at h
    · simp only[Prod.mk.injEq]at h;exact h.1.symm
    · simp only[Prod.mk.injEq]at h;exact h.1.symm
theorem V6: ∀ l:List (List UInt8),∀ b∈kK l,Ey b=false
 |[],b,hb=>by cases hb
 |[x],b,hb=>V9 x b hb
 |x::y::r,b,hb=>by
  rw[yx x (by simp)]at hb;rcases List.mem_append.1 hb with h|h
  · exact V9 x b h
  ·
   rcases List.mem_cons.1 h with rfl|h
   · decide
   · exact V6 (y::r) b h
theorem oP (f:List (List UInt8)):(!(jZ f).contains 10)=true:=by
 have h:(10:UInt8)∉jZ f:=fun hm=>by
  unfold jZ zL at hm;split at hm
  · cases hm
  ·
   split at hm
   · cases hm
   · exact absurd (V6 f 10 hm) (by decide)
 simp[h]
theorem Dw (t:TtD):VD (JO t)=true:=by
 unfold VD JO;rw[List.all_eq_true];intro l hl;simp only[List.mem_append,List.mem_map,List.mem_flatMap,List.mem_cons]at hl;rcases hl with⟨x,-,rfl⟩|⟨x,-,rfl⟩|⟨x,-,rfl⟩|⟨x,-,rfl⟩|⟨x,-,rfl|⟨c,-,rfl⟩⟩|⟨x,-,rfl⟩|⟨x,-,rfl⟩|⟨x,-,rfl⟩|⟨x,-,rfl⟩|h|⟨x,-,rfl⟩
 all_goals first
  |exact oP _
  |skip
 split at h
 · cases h
 ·
  rw[List.mem_singleton]at h;rw[h];exact oP _
theorem gX {t:TtD} (h:(Qj t).2.2=0):(xI t).2=0∨(xI t).2=5:=by
 unfold xI;rw[if_neg (fun k=>k h)];unfold Zu;rw[if_neg (by rw[Dw];decide)];split
 · exact .inr rfl
 · exact .inl rfl
end Go.Proofs.YtakedkcjplfgeaaGreatDoor.Tt
namespace Go.Proofs.YtakedkcjplfgeaaGreatDoor.Fld
theorem ES {l:List (List UInt8)} {o:List UInt8} {e:Int} (h:Zu l=(o,e)):o.length<=65536:=by
 unfold Zu at h;split at h
 · rw[Prod.mk.injEq]at h;rw[<-h.1];exact Nat.zero_le _
 ·
  split at h
  · rw[Prod.mk.injEq]at h;rw[<-h.1];exact Nat.zero_le _
  · rw[Prod.mk.injEq]at h;rw[<-h.1];omega
end Go.Proofs.YtakedkcjplfgeaaGreatDoor.Fld
