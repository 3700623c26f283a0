/- Contracts of the feed, proved. Conditions: those of each contract. -/
import Derived.Test.YtakedkcjplfgeaaGreatDoorMPkWrA
set_option maxRecDepth 1000000
set_option maxHeartbeats 32000000
namespace Go.Proofs.YtakedkcjplfgeaaGreatDoor.Fld
theorem Z7 (c:UInt8): ∀ s,zK c (s++[c])=zK c s++[[]]
 |[]=>by rw[List.nil_append,ZT];rfl
 |b::r=>by
  rw[List.cons_append];by_cases h:b=c
  ·
   rw[h,ZT,ZT,Z7 c r];rfl
  ·
   obtain⟨h',t,hr⟩: ∃ h' t,zK c r=h'::t:=by
    cases hs:zK c r with
    |nil=>exact absurd hs (fB c r)
    |cons x y=>exact⟨x,y,rfl⟩
   rw[yh h hr,yh h (by rw[Z7 c r,hr];rfl)];rfl
theorem WP: ∀ ls:List (List UInt8),VD ls=true->zK 10 (vK ls)=ls++[[]]
 |[],_=>rfl
 |l::ls,h=>by
  unfold VD at h;rw[List.all_cons,Bool.and_eq_true]at h;have e:vK (l::ls)=l++10::vK ls:=by simp[vK]
  have hl:(10:UInt8)∉l:=fun hm=>by
   rw[List.contains_iff_mem.2 hm]at h;exact absurd h.1 (by decide)
  rw[e,Yf _ l hl,WP ls h.2];rfl
theorem ER {ls:List (List UInt8)} (h:ls≠[]): ∃ f,vK ls=f++[10]:=by
 obtain⟨a,l,rfl⟩: ∃ a l,ls=a++[l]:=⟨ls.dropLast,ls.getLast h,(List.dropLast_concat_getLast h).symm⟩;exact⟨vK a++l,by simp[vK]⟩
theorem uB {ls:List (List UInt8)} {t:List UInt8} (h:Zu ls=(t,0)):vT t=(ls,0):=by
 unfold Zu at h;split at h
 · rw[Prod.mk.injEq]at h;exact absurd h.2 (by decide)
 ·
  rename_i h1;split at h
  · rw[Prod.mk.injEq]at h;exact absurd h.2 (by decide)
  ·
   rename_i h2;rw[Prod.mk.injEq]at h;obtain⟨rfl,-⟩:=h;unfold vT;rw[if_neg h2];by_cases h0:ls=[]
   · rw[h0];rfl
   ·
    obtain⟨f,hf⟩:=ER h0;have hs:=WP ls (by simpa using h1);rw[hf,Z7]at hs;have hs':=List.append_cancel_right hs;rw[hf,if_neg (by simp),List.getLast?_concat,if_pos rfl,List.dropLast_concat,hs']
end Go.Proofs.YtakedkcjplfgeaaGreatDoor.Fld
namespace Go.Proofs.YtakedkcjplfgeaaGreatDoor
open Go.RowKit
open Frq Thr Tt Num Clk Dat Fld
theorem jA.getB {α:Type} {cells:α->List Value} {sz B:Nat} {w:World} {xs:List α} {a:Option Addr} {n cap:Nat} (h:jA cells sz B w (.slice a n cap) xs) {k:Nat} {x:α} (hx:xs[k]? =some x):
  ∃ (b o:Nat),a=some ⟨b,o,none⟩/\b<B/\ ∀ (j:Nat) (u:Value),(cells x)[j]? =some u->w.cell? ⟨b,o+k*sz+j,none⟩=some u:=by
 obtain⟨b,o,cap',y,hv,-,-,hbB,hy,hc⟩:=h.at (List.getElem?_eq_some_iff.1 hx).1;simp only[Value.slice.injEq]at hv;obtain rfl:x=y:=Option.some.inj (hx.symm.trans hy);exact⟨b,o,hv.1,hbB,hc⟩
end Go.Proofs.YtakedkcjplfgeaaGreatDoor
