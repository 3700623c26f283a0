/-
  What the laws of top need of TopNtD, TopOvA. Conditions: those of each lemma.
-/
import Derived.Test.YtncbcmiflffakaaGreatPkNtB
import Derived.Laws.OwnMore
set_option maxRecDepth 1000000
set_option maxHeartbeats 32000000
namespace Go.Proofs.YtncbcmiflffakaaGreat
open Go.RowKit
open Frq Thr Tt
theorem nof_c (p i x:Int) (w:World):
  Calls Tryz.prog 99 #[.int .i64 p, .int .i64 i, .int .i64 x] w fun e w'=>e= .returned (.agg #[.int .i64 p, .int .i64 i, .int .i64 x])∧Bl w w':=by
 go_enter Tryz.func99,Tryz.ntmps99
 go_wp2_with fail;refine bodyPost_ret (results_cell_row rfl _ _ w.heap.size 186 _ (0,0) _ rfl (heap_alloc_new w _) Tryz.underlying186 rfl (by kernel_rfl)) rfl ?_;exact⟨rfl,bl_alloc (bl_refl _) _⟩
end Go.Proofs.YtncbcmiflffakaaGreat
namespace Go.Proofs.YtncbcmiflffakaaGreat
open Go.RowKit
open Frq Thr Tt
section
variable {P:Program} (w:World)
theorem run_append_in (base:Nat) (t ty e:TypeId) (i:TypeInfo) (z:Value) (size bytes:Nat) (ht:P.underlying t=some (.slice e)) (hi:P.info? e=some i) (hz:i.zero=some z)
  (hsize:i.size=size) (hby:i.bytes=bytes) (hzs:z.cells.size=size) (hsz:0<size)
  (v:Value) (n:Nat) (xs:List Value) (hown:RowIn w base e size v n xs)
  (a:Addr) (m c:Nat) (news:List Value) (hl:news.length=m*size) (hnews: ∀ j u,news[j]? =some u→w.cell? (a.add j)=some u) (h1: ∀ u∈news,u.oneCell'=true)
  (h63:n+m≤maxLen) (hbytes:(n+m)*bytes≤140737488355328) (hbase:base≤w.heap.size):
  ∃ v' w',(Builtin.append_ #[t,t] ty #[v, .slice (some a) m c]).run P w= .ok v' w'∧RowIn w' base e size v' (n+m) (xs++news)∧w.grownBy w' v.ownBlock:=by
 by_cases hg: ∃ g cap,v= .slice (some ⟨g,0,none⟩) n cap∧n+m≤cap
 ·
  obtain⟨g,cap,rfl,hroom⟩:=hg;subst hsize;have hlen:(xs++news).length=(n+m)*i.size:=by rw[List.length_append,hown.1,hl,Nat.add_mul]
  rcases hown.2 with⟨h,_⟩|⟨g',cap',cur,h,hbg,hg,hnc,hcm,hcs,htake⟩
  · simp at h
  ·
   simp only[Value.slice.injEq,Option.some.injEq,Addr.mk.injEq,and_true,true_and]at h;obtain⟨rfl,rfl⟩:=h;have hfit:n*i.size+news.length≤cur.size:=by
    rw[hl,←Nat.add_mul];exact Nat.le_trans (Nat.mul_le_mul_right _ hroom) hcs
   have hr:=run_append_room (P:=P) w t ty e i ht hi g n cap cur hg a m c news hl hnews h1 hroom hfit;refine⟨_,_,hr,⟨hlen, .inr ⟨g,cap,_,rfl,hbg,setRow_heap w g cur _ e _ hg,hroom,hcm, ?_, ?_⟩⟩,⟨rfl,rfl,rfl,by simp,fun k _ hk=>setRow_other w g k _ (fun e=>hk (by simp[Value.ownBlock,e]))⟩⟩
   ·
    simp only[List.size_toArray,List.length_append,List.length_take,List.length_drop,Array.length_toList];omega
   ·
    rw[htake,←hlen];exact List.take_left
 ·
  rcases hown.2 with⟨rfl,rfl⟩|⟨g,cap,cur,rfl,hbg,hgg,hnc,hcm,hcs,htake⟩
  ·
   have hx:xs=[]:=List.eq_nil_of_length_eq_zero (by simpa using hown.1);subst hx;obtain⟨v',w',hr,h2,h3,-⟩:=run_append_own (P:=P) w base t ty e i z size bytes ht hi hz hsize hby hzs hsz (.slice none 0 0) 0 [] (World.ownsRow_nil _ _ _ _) a m c news hl hnews h1 h63 hbytes hbase;exact⟨v',w',hr,rowIn_own h2,h3⟩
  ·
   have hno: ¬ n+m≤cap:=fun h=>hg ⟨g,cap,rfl,h⟩
   subst hsize;subst hby
   have hsmall:n+m≤9223372036854775807:=by simp only[maxLen]at h63;omega
   have hlen:(xs++news).length=(n+m)*i.size:=by rw[List.length_append,hown.1,hl,Nat.add_mul]
   have holds: ∀ j u,xs[j]? =some u→w.cell? ((⟨g,0,none⟩:Addr).add j)=some u:=fun j u hu=>by
    have hj:j<n*i.size:=by rw[←hown.1];exact(List.getElem?_eq_some_iff.1 hu).1
    have h:=RowIn.cellAt hown j hj;rw[hu]at h;unfold Addr.add;split
    · rename_i h0;subst h0;exact h
    ·
     show w.cell? ⟨g,0+j,none⟩=_
     rw[Nat.zero_add];exact h
   have hr:=run_append_grow (P:=P) w t ty e i z ht hi hz ⟨g,0,none⟩ n cap xs hown.1 holds a m c news hl hnews (by omega) (by omega) (growslice_fits (by omega) hbytes);have hge:=grownCap_ge w (n+m) cap e;have hcm:grownCap w (n+m) cap e≤maxLen:=grownCap_le_maxLen w (n+m) cap e h63;refine⟨_,_,hr,⟨hlen, .inr ⟨w.heap.size,_,_,rfl,hbase,heap_alloc_new w.drew _,hge,hcm, ?_, ?_⟩⟩,⟨rfl,rfl,rfl,by simp,fun k hk _=>(bl_alloc (bl_refl w.drew) _).block k hk⟩⟩
   ·
    refine Nat.le_of_eq ?_;simp only[Array.size_append,List.size_toArray,size_zeroCells,hzs,hown.1,hl,←Nat.add_mul];congr 1
    omega
   ·
    simp only[Array.toList_append,List.append_assoc];rw[←List.append_assoc,←hlen];exact List.take_left
end
end Go.Proofs.YtncbcmiflffakaaGreat
