/- Lean texts of the claim. -/
import Derived.Test.YtpbchbcdgikonaaGreatQ02
import Derived.Laws.CopyRow
import Derived.Laws.MakeOwn
import Derived.Deep.RegionLaw
import Derived.Shelf.Abstract
import Derived.Laws.EntriesVeiled
namespace Go.Proofs.YtpbchbcdgikonaaGreat
set_option linter.unusedVariables false
set_option linter.unusedSimpArgs false
set_option maxRecDepth 100000
set_option maxHeartbeats 4000000
open Go.RowKit
theorem St {P:Program} (w:World) (dT sT ty elem:TypeId) (size:Nat) (g o dLen dCap:Nat) (a:Addr) (sLen sCap:Nat) (cur:Array Value) (t:TypeId) (cs:List Value)
 (hu:P.underlying dT=some (.slice elem)) (hs:(P.info? elem).map (·.size)=some size)
 (hg:w.heap[g]? = some (.cells cur t (0,0))) (hn:cs.length=Nat.min sLen dLen*size)
 (hsrc:∀j v,cs[j]? = some v->w.cell? (a.add j)=some v) (hfit:o+cs.length<=cur.size) (h1:∀v∈cs,v.oneCell'=true) :
 (Builtin.copy_ #[dT,sT] ty #[.slice (some ⟨g,o,none⟩) dLen dCap,.slice (some a) sLen sCap]).run P w =
  .ok (goInt (Nat.min sLen dLen)) (w.setRow g (cur.toList.take o++cs++cur.toList.drop (o+cs.length)).toArray):=by
 have hl:=run_loadCells_list (P:=P) w a cs hsrc;have hst:=run_storeCells_at P g o t cs 0 cur w hg (by simpa using hfit) h1
 cases hq:P.info? elem with
 | none=>simp[hq] at hs
 | some i =>
   have hi:i.size=size:=by simpa[hq] using hs
   simp[Builtin.copy_,run_underlying hu,Builtin.lenOf,Builtin.firstCells,sizeOf,typeInfo,hq,hi,<-hn,hl,hst]
theorem Ur {P:Program} {o:Oper} {a:Act} {w w':World} {K:Act->World->Prop} {Q:Exit->Act->World->Prop} (d s:Operand) (dT sT:TypeId) {v vd vs:Value}
 (ho:o.op=.call { callee:=.builtin .copy,args:=#[d,s],argTypes:=#[dT,sT] }) (hd:a.eval d=vd) (hs:a.eval s=vs)
 (hr:∀ty,(Builtin.copy_ #[dT,sT] ty #[vd,vs]).run P w=.ok v w') (h:K (a.put o.dst v) w'):Oper.wp P o a w K Q:=by
 unfold Oper.wp execOp;simp only[ho,resolve,invoke,builtin,Sem.run_bind,Sem.run_pure,Result.andThen_ok,List.map_toArray,List.map_cons,List.map_nil,hd,hs,hr];exact h
theorem Ii {P:Program} {w w':World} {ops:Array Oper} {rest:List Oper} {o:Oper} {a:Act} {Q:Exit->Act->World->Prop} (hgd:o.guard=none) (d s:Operand) (dT sT:TypeId) {v vd vs:Value}
 (ho:o.op=.call { callee:=.builtin .copy,args:=#[d,s],argTypes:=#[dT,sT] }) (hd:a.eval d=vd) (hs:a.eval s=vs)
 (hr:∀ty,(Builtin.copy_ #[dT,sT] ty #[vd,vs]).run P w=.ok v w') (h:wpList P ops Q rest (a.put o.dst v) w'):wpList P ops Q (o::rest) a w :=
 wpList_plain hgd fun _ hK=>Ur d s dT sT ho hd hs hr (hK _ _ h)
theorem Aci:(Tryz.prog.info? 49).map (·.size)=some 2:=by kernel_rfl
theorem ow (l:List (Int×Int)):∀u∈l.flatMap enS,u.oneCell'=true:=by
 intro u hu;obtain⟨p,_,hp⟩:=List.mem_flatMap.1 hu;exact J5 p u hp
theorem Tw (l:List (Int×Int)) (i:Nat):(l.flatMap enS).take (i*2)=(l.take i).flatMap enS:=by
 induction l generalizing i with
 | nil=>simp
 | cons a l ih =>
   cases i with
   | zero=>simp
   | succ i =>
     rw[List.take_succ_cons,List.flatMap_cons,List.flatMap_cons,<-ih,show (i+1)*2=i*2+1+1 by omega]
     simp[enS]
theorem om {A:List Value} {cur:List (Int×Int)} {m i:Nat} (hm:cur.length=m) (hA:A.take (m*2)=cur.flatMap enS) (hi:i<m) :
 (A.take (i*2)++(cur.drop (i+1)).flatMap enS++A.drop (i*2+((cur.drop (i+1)).flatMap enS).length)).take ((m-1)*2)=(cur.eraseIdx i).flatMap enS:=by
 have h1:A.take (i*2)=(cur.take i).flatMap enS:=by
  rw[<-Tw,<-hA,List.take_take];congr 1;omega
 have hl1:((cur.take i).flatMap enS).length=i*2:=by rw[Cy Ci,List.length_take];omega
 have hl2:((cur.drop (i+1)).flatMap enS).length=(m-1-i)*2:=by rw[Cy Ci,List.length_drop];omega
 rw[h1,List.take_append_of_le_length (by rw[List.length_append,hl1,hl2];omega),List.take_of_length_le (by rw[List.length_append,hl1,hl2];omega),<-List.flatMap_append,<-List.eraseIdx_eq_take_drop_succ]
theorem OwS.erase {w:World} {base g m cap i:Nat} {cur:List (Int×Int)} (h:OwS w base (.slice (some ⟨g,0,none⟩) m cap) cur) (hm:cur.length=m) (hi:i<m) (sa:Addr) (hsa:i+1<m->sa=⟨g,(i+1)*2,none⟩) :
 ∃W,(∀ty,(Builtin.copy_ #[54,54] ty #[.slice (some ⟨g,i*2,none⟩) (m-i) (cap-i),.slice (some sa) (m-(i+1)) (cap-(i+1))]).run Tryz.prog w=.ok (.int .i64 ((m-(i+1):Nat):Int)) W) /\
  OwS W base (.slice (some ⟨g,0,none⟩) (m-1) cap) (cur.eraseIdx i)/\w.grownBy W (some g):=by
 subst hm
 have hsp:SpS w (some sa) (cur.length-(i+1)) (cur.drop (i+1)):=by
  rcases Nat.lt_or_ge (i+1) cur.length with h0|h0
  ·rw[hsa h0];simpa using (h.spsg rfl).drop (i:=i+1) (by omega)
  ·exact⟨by rw[List.length_drop],.inl (by omega)⟩
 obtain⟨h1,h2⟩:=h;rcases h2 with ⟨e,_⟩|⟨g',cap',A,e,hb,hg,hnc,hcm,hcs,htake⟩
 ·cases e
 ·injection e with e1 e2 e3
  injection e1 with e1
  injection e1 with e1
  subst e1 e3;have hlen:=Cy Ci (cur.drop (i+1));rw[List.length_drop] at hlen;have hmin:Nat.min (cur.length-(i+1)) (cur.length-i)=cur.length-(i+1):=Nat.min_eq_left (by omega)
  have hr:=fun ty=>St (P:=Tryz.prog) w 54 54 ty 49 2 g (i*2) (cur.length-i) (cap-i) sa (cur.length-(i+1)) (cap-(i+1)) A 49 ((cur.drop (i+1)).flatMap enS) Tryz.underlying54 Aci hg (by rw[hlen,hmin]) (Jy hsp) (by rw[hlen,hcs];omega) (ow _)
  rw[hmin] at hr;refine⟨_,hr,⟨?_,.inr ⟨g,cap,_,?_,hb,setRow_heap w g A _ _ _ hg,by rw[List.length_eraseIdx_of_lt hi];omega,hcm,?_,?_⟩⟩,⟨rfl,rfl,rfl,by simp[World.setRow],fun k _ hne=>setRow_other w g k _ (fun e=>hne (by rw[e]))⟩⟩
  ·rw[Cy Ci]
  ·rw[List.length_eraseIdx_of_lt hi]
  ·rw[List.size_toArray,List.length_append,List.length_append,List.length_take,List.length_drop,hlen,Array.length_toList,hcs];omega
  ·rw[List.length_eraseIdx_of_lt hi]
   exact om rfl htake hi
def ElS (w:World) (base:Nat) (v:Value) (l:List (Int×Int)):Prop:=∃A c,v=.slice A l.length c/\l.length<=c/\SpS w A l.length l/\(A=none->c=0)/\(∀a,A=some a->base<=a.block/\∃cs fr,w.heap[a.block]? = some (.cells cs 49 fr))
def enV (v:Value):List Value:=[v]
def H6 (w:World) (base:Nat) (v:Value) (ls:List (List (Int×Int))):Prop :=
 ∃vs:List Value,OwG 54 1 enV w base v vs/\vs.length=ls.length/\(∀u∈vs,u.oneCell'=true)/\∀(i:Nat) (u:Value) (l:List (Int×Int)),vs[i]? = some u->ls[i]? = some l->ElS w base u l
theorem Dk {w:World} {k:Nat} {o:Obj} (h:w.heap[k]? = some o):k<w.heap.size:=(Array.getElem?_eq_some_iff.1 h).1
theorem ElS.keepAbove {w w':World} {base:Nat} {v:Value} {l:List (Int×Int)} (h:ElS w base v l) (hk:∀k cs fr,base<=k->w.heap[k]? = some (.cells cs 49 fr)->w'.heap[k]? = w.heap[k]?):ElS w' base v l:=by
 obtain⟨A,c,rfl,h1,h2,h3,h4⟩:=h;refine⟨A,c,rfl,h1,⟨h2.1,?_⟩,h3,fun a ha=>?_⟩
 ·obtain⟨_,h2⟩:=h2
  rcases h2 with h2|⟨b,off,rfl,h2⟩
  ·exact .inl h2
  ·obtain⟨g1,cs,fr,g2⟩:=h4 _ rfl
   have hh:=hk b cs fr g1 g2;exact .inr ⟨b,off,rfl,fun k hk'=>⟨(World.cell?_of_block (w:=w) (a:=⟨b,off+k*2,none⟩) hh).trans (h2 k hk').1,(World.cell?_of_block (w:=w) (a:=⟨b,off+k*2+1,none⟩) hh).trans (h2 k hk').2⟩⟩
 ·obtain⟨g1,cs,fr,g2⟩:=h4 _ ha
  exact⟨g1,cs,fr,(hk _ cs fr g1 g2).trans g2⟩
theorem ElS.keep {w w':World} {base:Nat} {v:Value} {l:List (Int×Int)} (h:ElS w base v l) (hb:Below w.heap.size w w'):ElS w' base v l :=
 h.keepAbove fun k _ _ _ hg=>hb.block k (Dk hg)
theorem ElS.grown {w w':World} {base:Nat} {v:Value} {l:List (Int×Int)} {row:Option Nat} (h:ElS w base v l) (hg:w.grownBy w' row) (hr:∀k cs fr,base<=k->w.heap[k]? = some (.cells cs 49 fr)->some k≠row):ElS w' base v l :=
 h.keepAbove fun k cs fr hk hh=>hg.block k (Dk hh) (hr k cs fr hk hh)
theorem H6.nil {w:World} {base:Nat}:H6 w base (.slice none 0 0) []:=⟨[],OwG.nil,rfl,by simp,by simp⟩
theorem H6.keep {w w':World} {base:Nat} {v:Value} {ls:List (List (Int×Int))} (h:H6 w base v ls) (hb:Below w.heap.size w w'):H6 w' base v ls:=by
 obtain⟨vs,h1,h2,h3,h4⟩:=h;exact⟨vs,h1.keep hb,h2,h3,fun i u l hu hl=>(h4 i u l hu hl).keep hb⟩
theorem OwG.keepAbove {α:Type} {e:TypeId} {size:Nat} {enc:α->List Value} {w w':World} {base:Nat} {v:Value} {l:List α} (h:OwG e size enc w base v l) (hb:∀k,base<=k->k<w.heap.size->w'.heap[k]? = w.heap[k]?):OwG e size enc w' base v l:=by
 have hlt:=h.lt;obtain⟨h1,h2⟩:=h;refine⟨h1,?_⟩;rcases h2 with h2|⟨g,cap,cur,hv,hg,hh,r⟩
 ·exact Or.inl h2
 ·refine Or.inr ⟨g,cap,cur,hv,hg,?_,r⟩
  rw[hb g hg (hlt g (by rw[hv];rfl)).2];exact hh
theorem H6.keepAbove {w w':World} {base:Nat} {v:Value} {ls:List (List (Int×Int))} (h:H6 w base v ls) (hb:∀k,base<=k->k<w.heap.size->w'.heap[k]? = w.heap[k]?):H6 w' base v ls:=by
 obtain⟨vs,h1,h2,h3,h4⟩:=h;exact⟨vs,h1.keepAbove hb,h2,h3,fun i u l hu hl=>(h4 i u l hu hl).keepAbove fun k _ _ hk hh=>hb k hk (Dk hh)⟩
theorem H6.lower {w:World} {base base':Nat} {v:Value} {ls:List (List (Int×Int))} (h:H6 w base v ls) (hb:base'<=base):H6 w base' v ls:=by
 obtain⟨vs,h1,h2,h3,h4⟩:=h
 exact⟨vs,h1.lower hb,h2,h3,fun i u l hu hl=>by
  obtain⟨A,c,e,e1,e2,e3,e4⟩:=h4 i u l hu hl;exact⟨A,c,e,e1,e2,e3,fun a ha=>⟨Nat.le_trans hb (e4 a ha).1,(e4 a ha).2⟩⟩⟩
theorem ElS.lower {w:World} {base base':Nat} {v:Value} {l:List (Int×Int)} (h:ElS w base v l) (hb:base'<=base):ElS w base' v l:=by
 obtain⟨A,c,e,e1,e2,e3,e4⟩:=h;exact⟨A,c,e,e1,e2,e3,fun a ha=>⟨Nat.le_trans hb (e4 a ha).1,(e4 a ha).2⟩⟩
theorem Ag5:(Tryz.prog.info? 54).map (fun i=>(i.zero,i.size,i.bytes))=some (some (.slice none 0 0),1,24):=by kernel_rfl
theorem Ri (v:Value):(enV v).length=1:=rfl
theorem Ev {w:World} {ops:Array Oper} {rest:List Oper} {o:Oper} {a:Act} {Q:Exit->Act->World->Prop} (hgd:o.guard=none) (s x:Operand)
 (ho:o.op=.call { callee:=.builtin .append,args:=#[s,x],argTypes:=#[42,42] })
 (base:Nat) (v:Value) (ls:List (List (Int×Int))) (hs:a.eval s=v) (hown:H6 w base v ls)
 (bx c:Nat) (u:Value) (l:List (Int×Int)) (tb:TypeId) (hx:a.eval x=.slice (some ⟨bx,0,none⟩) 1 c) (hnew:Bb w bx tb #[u]) (hu:ElS w base u l)
 (hlen:ls.length<=1000000) (hbase:base<=w.heap.size)
 (h:∀v' w',H6 w' base v' (ls++[l])->w.grownBy w' v.ownBlock->(v'.ownBlock=v.ownBlock\/v'.ownBlock=some w.heap.size)->wpList Tryz.prog ops Q rest (a.put o.dst v') w') :
 wpList Tryz.prog ops Q (o::rest) a w:=by
 obtain⟨i,hi,hz0,hz1,hz2⟩:=info_parts Ag5;obtain⟨vs,h1,h2,h3,h4⟩:=hown;have hone:u.oneCell'=true:=by obtain⟨A,c,rfl,_⟩:=hu;rfl
 have hrow:∀k cs fr,base<=k->w.heap[k]? = some (.cells cs 49 fr)->some k≠v.ownBlock:=by
  intro k cs fr _ hh he;rcases h1.2 with ⟨rfl,_⟩|⟨g,cap,cur,rfl,_,hg,_⟩
  ·cases he
  ·have:k=g:=by simpa[Value.ownBlock] using he
   subst this;rw[hg] at hh;injection hh with hh
   injection hh with _ ht
   exact absurd ht (by decide)
 have hflat:vs.flatMap enV=vs:=by
  clear h1 h2 h3 h4 hrow;induction vs with
  | nil=>rfl
  | cons a l ih=>rw[List.flatMap_cons,ih];rfl
 refine wpList_append_own_at (P:=Tryz.prog) w hgd s x 42 ho base 54 i (.slice none 0 0) 1 24 Tryz.underlying42 hi hz0 hz1 hz2 rfl (by omega) v vs.length (vs.flatMap enV) hs h1 ⟨bx,0,none⟩ 1 c [u] hx rfl ?_ (by simpa using hone) (by rw[h2];unfold maxLen;omega) (by rw[h2];omega) hbase ?_
 ·intro j y hj
  exact World.news_of_block (w:=w) (B:=bx) (cs:=#[u]) (t:=tb) (fr:=(0,0)) hnew j y (by simpa using hj)
 ·intro v' w' ho' hg _ hat
  refine h v' w' ⟨vs++[u],?_,by rw[List.length_append,List.length_append,h2];rfl,?_,?_⟩ hg hat
  ·unfold OwG
   rw[List.length_append,List.flatMap_append];exact ho'
  ·intro y hy
   rcases List.mem_append.1 hy with hy|hy
   ·exact h3 y hy
   ·rw[List.mem_singleton.1 hy];exact hone
  ·intro k y l' hy hl'
   rcases Nat.lt_or_ge k vs.length with hk|hk
   ·rw[List.getElem?_append_left hk] at hy
    rw[List.getElem?_append_left (by omega)] at hl'
    exact(h4 k y l' hy hl').grown hg hrow
   ·rw[List.getElem?_append_right hk] at hy
    rw[List.getElem?_append_right (by omega)] at hl'
    rcases Nat.eq_zero_or_pos (k-vs.length) with h0|h0
    ·rw[h0] at hy
     rw[show k-ls.length=0 by omega] at hl'
     simp at hy hl';subst hy hl';exact hu.grown hg hrow
    ·rw[List.getElem?_eq_none (by simp;omega)] at hy;cases hy
def Aax (l:List (Int×Int)) (n k:Nat):List (Int×Int):=[gt l ((k+n-1) % n),gt l k,gt l ((k+1) % n)]
def C6:Nat->List (Int×Int)->List (List (Int×Int))->Option (List (List (Int×Int)))
 | 0,cur,ts=>some (ts++[cur])
 | f+1,cur,ts =>
   if cur.length<=3 then some (ts++[cur])
   else if 0<=Cx (Sh cur cur.length) cur.length then C6 f (cur.eraseIdx (Cx (Sh cur cur.length) cur.length).toNat) ts
   else if Cx (F0 cur cur.length) cur.length<0 then none
   else C6 f (cur.eraseIdx (Cx (F0 cur cur.length) cur.length).toNat) (ts++[Aax cur cur.length (Cx (F0 cur cur.length) cur.length).toNat])
theorem Pd {f:Nat} {cur:List (Int×Int)} {ts:List (List (Int×Int))} (h:cur.length<=3):C6 f cur ts=some (ts++[cur]):=by
 cases f with
 | zero=>rfl
 | succ f=>unfold C6;rw[if_pos h]
theorem Pc {f m:Nat} {cur:List (Int×Int)} {ts:List (List (Int×Int))} {i:Nat} (hm:cur.length=m) (h:¬m<=3) (h1:Cx (Sh cur m) m=(i:Int)):C6 (f+1) cur ts=C6 f (cur.eraseIdx i) ts:=by
 subst hm;rw[show C6 (f+1) cur ts=if cur.length<=3 then some (ts++[cur]) else if 0<=Cx (Sh cur cur.length) cur.length then C6 f (cur.eraseIdx (Cx (Sh cur cur.length) cur.length).toNat) ts else if Cx (F0 cur cur.length) cur.length<0 then none else C6 f (cur.eraseIdx (Cx (F0 cur cur.length) cur.length).toNat) (ts++[Aax cur cur.length (Cx (F0 cur cur.length) cur.length).toNat]) from rfl,if_neg h,if_pos (by rw[h1];omega),h1,Int.toNat_natCast]
theorem Nh {f m:Nat} {cur:List (Int×Int)} {ts:List (List (Int×Int))} (hm:cur.length=m) (h:¬m<=3) (h1:¬0<=Cx (Sh cur m) m) (h2:Cx (F0 cur m) m<0):C6 (f+1) cur ts=none:=by
 subst hm;rw[show C6 (f+1) cur ts=if cur.length<=3 then some (ts++[cur]) else if 0<=Cx (Sh cur cur.length) cur.length then C6 f (cur.eraseIdx (Cx (Sh cur cur.length) cur.length).toNat) ts else if Cx (F0 cur cur.length) cur.length<0 then none else C6 f (cur.eraseIdx (Cx (F0 cur cur.length) cur.length).toNat) (ts++[Aax cur cur.length (Cx (F0 cur cur.length) cur.length).toNat]) from rfl,if_neg h,if_neg h1,if_pos h2]
theorem Pe {f m:Nat} {cur:List (Int×Int)} {ts:List (List (Int×Int))} {i:Nat} (hm:cur.length=m) (h:¬m<=3) (h1:¬0<=Cx (Sh cur m) m) (h2:Cx (F0 cur m) m=(i:Int)):C6 (f+1) cur ts=C6 f (cur.eraseIdx i) (ts++[Aax cur m i]):=by
 subst hm;rw[show C6 (f+1) cur ts=if cur.length<=3 then some (ts++[cur]) else if 0<=Cx (Sh cur cur.length) cur.length then C6 f (cur.eraseIdx (Cx (Sh cur cur.length) cur.length).toNat) ts else if Cx (F0 cur cur.length) cur.length<0 then none else C6 f (cur.eraseIdx (Cx (F0 cur cur.length) cur.length).toNat) (ts++[Aax cur cur.length (Cx (F0 cur cur.length) cur.length).toNat]) from rfl,if_neg h,if_neg h1,if_neg (by rw[h2];omega),h2,Int.toNat_natCast]
theorem Hs (f:Nat->Bool) (n:Nat):Cx f n = -1\/∃k:Nat,k<n/\Cx f n=(k:Int):=by
 unfold Cx;cases h:(List.range n).find? f with
 | none=>exact .inl rfl
 | some i=>exact .inr ⟨i,by simpa using List.mem_of_find?_eq_some h,rfl⟩
theorem ky (l:List (Int×Int)) (n:Nat):(Cm l n).length<=n:=by
 unfold Cm rot;have h1:=Oi l n;have h2:=Od (J7 l n) (J7 l n).length;rw[List.length_append,List.length_drop,List.length_take];omega
def Adm (w:World) (a:Addr):Nat:=match w.cell? a with|some (.slice _ m _)=>m|_=>0
theorem Ko {w:World} {a:Addr} {A:Option Addr} {m c:Nat} (h:w.cell? a=some (.slice A m c)):Adm w a=m:=by unfold Adm;rw[h]
def s9 (w:World) (r:Option (List (List (Int×Int)))) (e:Ending) (w':World):Prop :=
 Below w.heap.size w w'/\match r with
  | none=>e=.returned (.tuple #[.slice none 0 0,.int .i64 11])
  | some ts=>∃v,e=.returned (.tuple #[v,.int .i64 0])/\H6 w' w.heap.size v ts
theorem OwS.els {w:World} {base:Nat} {v:Value} {l:List (Int×Int)} (h:OwS w base v l):ElS w base v l:=by
 obtain⟨A,c,rfl,h1,h2,h3⟩:=h.sps;rcases h.2 with ⟨e,e2⟩|⟨g,cap,cur,e,hg,hh,_⟩
 ·injection e with e1 e2 e3
  exact⟨A,c,rfl,h1,h2,fun _=>e3,fun a ha=>by rw[e1] at ha;cases ha⟩
 ·injection e with e1 e2 e3
  refine⟨A,c,rfl,h1,h2,fun h0=>?_,fun a ha=>?_⟩
  ·rw[e1] at h0;cases h0
  ·rw[e1] at ha;injection ha with ha;subst ha;exact⟨hg,cur,(0,0),hh⟩
theorem Yo:∀args w,(callFunc 88 args).run Tryz.prog w=.ok (.enter 88 args) w:=by
 exact enters_of Tryz.func88 (by kernel_rfl) rfl
theorem yw:∀args w,(callFunc 90 args).run Tryz.prog w=.ok (.enter 90 args) w:=by
 exact enters_of Tryz.func90 (by kernel_rfl) rfl
theorem p8 (w1:World) (gf cp m:Nat) (Z:Array Value) (form:List (Int×Int)) (hZ:Z.size=m*2) (hm:form.length=m) (hsp:SpS w1 (some ⟨gf,0,none⟩) m form) (hml:m<=1000) :
 ∃W,(∀ty,(Builtin.copy_ #[54,54] ty #[.slice (some ⟨w1.heap.size,0,none⟩) m m,.slice (some ⟨gf,0,none⟩) m cp]).run Tryz.prog ((w1.alloc (.cells Z 49)).alloc (.cells #[.slice (some ⟨w1.heap.size,0,none⟩) m m] 54))=.ok (.int .i64 (m:Int)) W) /\
  OwS W w1.heap.size (.slice (some ⟨w1.heap.size,0,none⟩) m m) form/\Bb W (w1.heap.size+1) 54 #[.slice (some ⟨w1.heap.size,0,none⟩) m m]/\Below w1.heap.size w1 W:=by
 subst hm;have hb0:Below w1.heap.size w1 ((w1.alloc (.cells Z 49)).alloc (.cells #[.slice (some ⟨w1.heap.size,0,none⟩) form.length form.length] 54)):=An (An (Below.refl _ _) _) _;have hg:Bb ((w1.alloc (.cells Z 49)).alloc (.cells #[.slice (some ⟨w1.heap.size,0,none⟩) form.length form.length] 54)) w1.heap.size 49 Z:=(Bb.new _ _ _).alloc _;have hl:Bb ((w1.alloc (.cells Z 49)).alloc (.cells #[.slice (some ⟨w1.heap.size,0,none⟩) form.length form.length] 54)) (w1.heap.size+1) 54 #[.slice (some ⟨w1.heap.size,0,none⟩) form.length form.length]:=Bb.new2 _ _ _ _;generalize ((w1.alloc (.cells Z 49)).alloc (.cells #[.slice (some ⟨w1.heap.size,0,none⟩) form.length form.length] 54))=W0 at *
 have hlen:=Cy Ci form;have hmin:Nat.min form.length form.length=form.length:=Nat.min_self _;have hr:=fun ty=>St (P:=Tryz.prog) W0 54 54 ty 49 2 w1.heap.size 0 form.length form.length ⟨gf,0,none⟩ form.length cp Z 49 (form.flatMap enS) Tryz.underlying54 Aci hg (by rw[hlen,hmin]) (Jy (hsp.keep hb0)) (by rw[hlen,hZ];omega) (ow _)
 rw[hmin] at hr;refine⟨_,hr,⟨hlen,.inr ⟨_,form.length,_,rfl,Nat.le_refl _,setRow_heap W0 _ Z _ _ _ hg,Nat.le_refl _,by unfold maxLen;omega,?_,?_⟩⟩,?_,?_⟩
 ·rw[List.size_toArray,List.length_append,List.length_append,List.length_take,List.length_drop,hlen,Array.length_toList,hZ];omega
 ·simp only[List.take_zero,List.nil_append,Nat.zero_add]
  rw[List.take_append_of_le_length (by rw[hlen];omega),List.take_of_length_le (by rw[hlen];omega)]
 ·exact(setRow_other W0 w1.heap.size (w1.heap.size+1) _ (by omega)).trans hl
 ·exact hb0.trans ⟨rfl,rfl,rfl,by simp[World.setRow],fun k hk=>setRow_other W0 w1.heap.size k _ (by omega)⟩
theorem H6.own {w:World} {base:Nat} {v:Value} {ls:List (List (Int×Int))} (h:H6 w base v ls):OwG 54 1 enV w base v (Classical.choose h):=(Classical.choose_spec h).1
theorem Ak8 {g k m j:Nat} (h:(Value.slice (some ⟨g,0,none⟩) k m).ownBlock=some j):g=j:=by simpa[Value.ownBlock] using h
theorem Cw {P:Program} {c:Code} {Q:Exit->Act->World->Prop} {a:Act} {w:World} (F:World->Prop) (hF:F w) (h:∀X,F X->c.wp P Q a X):c.wp P Q a w:=h w hF
theorem OwG.below {α:Type} {e:TypeId} {size:Nat} {enc:α->List Value} {w w':World} {base B:Nat} {v:Value} {l:List α} (h:OwG e size enc w base v l) (hb:Below B w w') (hv:∀k,v.ownBlock=some k->k<B):OwG e size enc w' base v l:=by
 obtain⟨h1,h2⟩:=h;refine⟨h1,?_⟩;rcases h2 with h2|⟨g,cap,cur,hv',hg,hh,r⟩
 ·exact Or.inl h2
 ·refine Or.inr ⟨g,cap,cur,hv',hg,?_,r⟩
  rw[hb.block g (hv g (by rw[hv'];rfl))];exact hh
theorem ElS.tri {w:World} {base B:Nat} {a b c:Int×Int} (h:Bb w B 49 #[.int .i64 a.1,.int .i64 a.2,.int .i64 b.1,.int .i64 b.2,.int .i64 c.1,.int .i64 c.2]) (hB:base<=B):ElS w base (.slice (some ⟨B,0,none⟩) 3 3) [a,b,c]:=by
 refine⟨some ⟨B,0,none⟩,3,rfl,Nat.le_refl _,SpS.of3 h,(fun e=>by cases e),fun x hx=>?_⟩
 injection hx with hx
 subst hx;exact⟨hB,_,_,h⟩
theorem uw (b off cap n:Nat) (l:List (Int×Int)) (w:World) (hl:n<=1000) (hcap:n<=cap) (hs:SpS w (some ⟨b,off,none⟩) n l) (hc:Bf l n=0) :
 Calls Tryz.prog 59 #[.slice (some ⟨b,off,none⟩) n cap] w (s9 w (C6 (Cm l n).length (Cm l n) [])):=by
 have hln:=ky l n;obtain⟨form,hform⟩:∃form,form=Cm l n:=⟨_,rfl⟩
 have hno:=ke b off cap n l w hl hcap hs hc;rw[<-hform] at hno hln ⊢;have HNO:=Lib.hid hno;clear hno hform hc;obtain⟨m,hm⟩:∃m,form.length=m:=⟨_,rfl⟩
 rw[hm] at hln ⊢;have HM:=Lib.hid hm;clear hm;obtain⟨i,hi,hz0,hz1,hz2⟩:=info_parts Vq
 obtain⟨Z,hZ,hmk⟩:∃Z:Array Value,Z.size=m*2/\∀w,(Instr.makeSlice 54 (.int .i64 (m:Int)) (.int .i64 (m:Int))).run Tryz.prog w=.ok (.slice (some ⟨w.heap.size,0,none⟩) m m) (w.alloc (.cells Z 49)):=by
  refine⟨madeCells (Value.agg #[Value.int IntKind.i64 0,Value.int IntKind.i64 0]).cells (m*2),size_madeCells _ _,fun w=>?_⟩
  have hr:=run_make (P:=Tryz.prog) w 54 49 i (.agg #[.int .i64 0,.int .i64 0]) Tryz.underlying54 hi hz0 .i64 .i64 m m (by omega) (by omega) (by rw[hz2];omega) (by omega)
  rw[hz1] at hr;simpa using hr
 clear hi hz0 hz1 hz2 i;go_enter Tryz.func59,Tryz.ntmps59
 go_upto_region 4 with (go_at_call 86;refine HNO.out.mono ?_;rintro e w1 ⟨v1,rfl,ho1,hb1⟩)
 rcases OwG.form ho1 with ⟨rfl,hcn⟩|⟨gf,cp,rfl,-,-,hcp,-⟩
 ·have hm0:m=0:=by rw[<-HM.out,hcn];rfl
  subst hm0;subst hcn;have hcpy:∀ty (W:World),(Builtin.copy_ #[54,54] ty #[.slice (some ⟨w1.heap.size,0,none⟩) 0 0,.slice none 0 0]).run Tryz.prog W=.ok (goInt 0) W:=fun ty W=>run_copy_nil Tryz.prog W 54 54 ty 49 ⟨w1.heap.size,0,none⟩ 0 0 Tryz.underlying54 (by rw[Aci];rfl)
  have hmk0:∀w,(Instr.makeSlice 54 (.int .i64 0) (.int .i64 0)).run Tryz.prog w=.ok (.slice (some ⟨w.heap.size,0,none⟩) 0 0) (w.alloc (.cells Z 49)):=hmk
  clear hmk;go_wp2_with fail;go_loopw [10] (fun s10 wr=>s10=.slice none 0 0/\Bb wr w1.heap.size 49 Z/\Bb wr (w1.heap.size+1) 54 #[.slice (some ⟨w1.heap.size,0,none⟩) 0 0]/\Below w.heap.size w wr) (fun _ _=>0)
  case atStart=>exact⟨rfl,((Bb.new _ _ _).alloc _).alloc _,(Bb.new2 _ _ _ _).alloc _,An (An (An hb1 _) _) _⟩
  case round =>
   obtain⟨rfl,hBg,hBl,hb⟩:=hrel;have cl:=hBl.cell 0;simp only[List.getElem?_toArray,List.getElem?_cons_zero] at cl;have hel:ElS wr w.heap.size (.slice (some ⟨w1.heap.size,0,none⟩) 0 0) []:=⟨some ⟨w1.heap.size,0,none⟩,0,rfl,Nat.le_refl _,⟨rfl,.inl rfl⟩,(fun h=>by cases h),fun a ha=>by injection ha with ha;subst ha;exact⟨hb1.size,Z,(0,0),hBg⟩⟩
   go_wp2_with (at_builtin;refine Ev rfl _ _ rfl w.heap.size _ [] rfl H6.nil wr.heap.size 1 (.slice (some ⟨w1.heap.size,0,none⟩) 0 0) [] 54 rfl (Bb.new _ _ _) (hel.keep (An (Below.refl _ _) _)) (by simp) (An hb _).size ?_;intro v' w' ho' hg' hat')
   go_ret2
   exact⟨Bm (An hb _) (H6.own (H6.nil (w:=wr.alloc _))) hg',v',rfl,ho'⟩
 ·rw[HM.out] at hcp ho1 ⊢
  have hsp1:=ho1.spsg HM.out;obtain⟨W,hrun,hoW,hBW,hbW⟩:=p8 w1 gf cp m Z form hZ HM.out hsp1 (by omega)
  clear ho1 hcp;have hbwW:Below w.heap.size w W:=Ao hb1 hbW;go_wp2_with fail;clear hrun hmk;have hB7:Bb (W.alloc (.cells #[.func (.func 87) #[] #[.pointer (some ⟨w1.heap.size+1,0,none⟩)]] 174)) W.heap.size 174 #[.func (.func 87) #[] #[.pointer (some ⟨w1.heap.size+1,0,none⟩)]]:=Bb.new _ _ _;have hBl:=hBW.alloc (.cells #[.func (.func 87) #[] #[.pointer (some ⟨w1.heap.size+1,0,none⟩)]] 174);have hoL:OwS (W.alloc (.cells #[.func (.func 87) #[] #[.pointer (some ⟨w1.heap.size+1,0,none⟩)]] 174)) w.heap.size (.slice (some ⟨w1.heap.size,0,none⟩) m m) form:=(OwG.lower hoW hb1.size).alloc _;have hbL:=An hbwW (.cells #[.func (.func 87) #[] #[.pointer (some ⟨w1.heap.size+1,0,none⟩)]] 174);have hlb:w1.heap.size+1<W.heap.size:=hBW.lt;have hgw:w.heap.size<=w1.heap.size:=hb1.size;obtain⟨g,hg⟩:∃g,g=w1.heap.size:=⟨_,rfl⟩
  obtain⟨b7,hb7⟩:∃b7,b7=W.heap.size:=⟨_,rfl⟩
  rw[<-hg] at hB7 hBl hoL hbL hlb hgw ⊢;rw[<-hb7] at hB7 hlb ⊢;have hsz:(W.alloc (.cells #[.func (.func 87) #[] #[.pointer (some ⟨g+1,0,none⟩)]] 174)).heap.size=b7+1:=by rw[hb7];simp
  generalize W.alloc (.cells #[.func (.func 87) #[] #[.pointer (some ⟨g+1,0,none⟩)]] 174)=WL at *
  clear hg hb7 hbwW hbW hBW hoW hb1 hsp1;have hszL:b7+1<=WL.heap.size:=by omega
  clear hsz;go_loopw [10] (fun s10 wr=>∃(cur:List (Int×Int)) (k f:Nat) (ts:List (List (Int×Int))),Hid (cur.length=k)/\k<=m/\ts.length+k<=m/\OwS wr w.heap.size (.slice (some ⟨g,0,none⟩) k m) cur/\Bb wr (g+1) 54 #[.slice (some ⟨g,0,none⟩) k m]/\Bb wr b7 174 #[.func (.func 87) #[] #[.pointer (some ⟨g+1,0,none⟩)]]/\H6 wr (b7+1) s10 ts/\Below w.heap.size w wr/\k<=f/\Hid (C6 f cur ts=C6 m form [])) (fun _ wr=>Adm wr ⟨g+1,0,none⟩)
  case atStart=>exact⟨form,m,m,[],HM,Nat.le_refl _,by simp,hoL,hBl,hB7,H6.nil,hbL,Nat.le_refl _,rfl⟩
  case round =>
   clear hoL hBl hB7 hbL hszL;obtain⟨cur,k,f,ts,HK,hkm,htk,ho,hBl,hB7,hoS,hb,hkf,hsp⟩:=hrel;have cl:=hBl.cell 0;have c7:=hB7.cell 0;simp only[List.getElem?_toArray,List.getElem?_cons_zero] at cl c7;have hsc:=ho.spsg HK.out;have HL0:=Lib.hid (Ko cl);by_cases hk3:3<k
   ·rcases Hs (Sh cur k) k with hn1|⟨i,hik,hii⟩
    ·have hn1':¬0<=Cx (Sh cur k) k:=by rw[hn1];omega
     have hfi:=Oe 88 #[.pointer (some ⟨b7,0,none⟩)] k (Sh cur k) wr (by omega) Yo (fun j w' hj hbj=>Mc b7 (g+1) g k m j cur w' (by omega) hkm (Aq hbj c7) (Aq hbj cl) (hsc.keep hbj) hj)
     rw[hn1] at hfi;have HFI:=Lib.hid hfi;clear hfi hn1;have hfr:=fun (w2:World) (hb2:Below wr.heap.size wr w2)=>Oe 90 #[.pointer (some ⟨b7,0,none⟩),.pointer (some ⟨g+1,0,none⟩)] k (F0 cur k) w2 (by omega) yw (fun j w' hj hbj=>yr b7 (g+1) g k m j cur w' (by omega) hkm (Aq hbj (Aq hb2 c7)) (Aq hbj (Aq hb2 cl)) ((hsc.keep hb2).keep hbj) hj)
     rcases Hs (F0 cur k) k with hn2|⟨i,hik,hii⟩
     ·have hst:=Nh (f:=f-1) (ts:=ts) HK.out (by omega) hn1' (by rw[hn2];omega)
      rw[show f-1+1=f by omega] at hst
      have HST:=Lib.hid (hsp.out.symm.trans hst);rw[hn2] at hfr;have HFR:=Lib.hid hfr;clear hfr hst hsp hn2 hn1';go_wp2_with fail;refine HFI.out.mono ?_;rintro e w2 ⟨rfl,hb2⟩;have cl2:=Aq hb2 cl;go_wp2_with fail;refine(HFR.out w2 hb2).mono ?_;rintro e w3 ⟨rfl,hb3⟩;go_wp2_with fail
      go_ret2
      refine⟨Ao (Ao hb hb2) hb3,?_⟩;rw[HST.out];rfl
     ·have hst:=Pe (f:=f-1) (ts:=ts) HK.out (by omega) hn1' hii
      rw[show f-1+1=f by omega] at hst
      have HST:=Lib.hid (hst.symm.trans hsp.out);rw[hii] at hfr;have HFR:=Lib.hid hfr;clear hfr hst hsp hn1' hii;go_wp2_with fail;refine HFI.out.mono ?_;rintro e wa ⟨rfl,hba⟩;have cla:=Aq hba cl;go_wp2_with fail;refine(HFR.out wa hba).mono ?_;rintro e wb ⟨rfl,hbb⟩;have clb:=Aq hbb cla;have c7b:=Aq hbb (Aq hba c7)
      go_upto_region 17 with (go_at_call 87;refine(Lz (g+1) g k m i cur _ (by omega) hkm clb ((hsc.keep hba).keep hbb) hik).mono ?_;rintro e wd ⟨rfl,hbd⟩)
      have hbrd:Below wr.heap.size wr wd:=Ao (Ao hba hbb) hbd;generalize hA1:gt cur ((i+k-1) % k)=p1;generalize hA2:gt cur i=p2;generalize hA3:gt cur ((i+1) % k)=p3
      have HTRI:Hid (Aax cur k i=[p1,p2,p3]):=by
       show _=_
       unfold Aax;rw[hA1,hA2,hA3]
      clear hA1 hA2 hA3;refine Cw (Cls wd [(⟨wd.heap.size,0,none⟩,.int .i64 p1.1),(⟨wd.heap.size,1,none⟩,.int .i64 p1.2),(⟨wd.heap.size+1,0,none⟩,.int .i64 p2.1),(⟨wd.heap.size+1,1,none⟩,.int .i64 p2.2),(⟨wd.heap.size+1+1,0,none⟩,.int .i64 p3.1),(⟨wd.heap.size+1+1,1,none⟩,.int .i64 p3.2)]) ⟨(An (An (An (Below.refl _ _) _) _) _),by simp only[List.mem_cons,List.not_mem_nil,forall_eq_or_imp,or_false,forall_eq];go_simp⟩ ?_
      intro X hX;have hx:=hX.2;simp only[List.mem_cons,List.not_mem_nil,forall_eq_or_imp,or_false,forall_eq] at hx;have hbrX:Below wr.heap.size wr X:=Ao hbrd hX.1;have hb7l:b7+1<=wr.heap.size:=hB7.lt;have hb7X:b7+1<=X.heap.size:=Nat.le_trans hb7l hbrX.size;clear hX hbrd clb c7b cla
      go_upto_region 18 with (at_builtin;refine Ev rfl _ _ rfl (b7+1) _ ts rfl (hoS.keep (An (An hbrX _) _)) (X.heap.size+1) 1 (.slice (some ⟨X.heap.size,0,none⟩) 3 3) [p1,p2,p3] 54 rfl (Bb.new2 _ _ _ _) (ElS.tri ((Bb.new _ _ _).alloc _) hb7X) (by omega) (Nat.le_trans hb7l (An (An hbrX _) _).size) ?_;intro v' w2 hoS2 hg' hat')
      have hlow:Below (b7+1) wr w2:=Below.grown ((An (An hbrX _) _).mono hb7l) hg' (Nat.le_trans hb7l (An (An hbrX _) _).size) (fun j hj=>(OwG.lt (H6.own hoS) j hj).1)
      have ho2:OwS w2 w.heap.size (.slice (some ⟨g,0,none⟩) k m) cur:=OwG.below ho hlow (fun j hj=>by have:=Ak8 hj;omega)
      have hBl2:Bb w2 (g+1) 54 #[.slice (some ⟨g,0,none⟩) k m]:=(hlow.block (g+1) (by omega)).trans hBl
      have hB72:Bb w2 b7 174 #[.func (.func 87) #[] #[.pointer (some ⟨g+1,0,none⟩)]]:=(hlow.block b7 (by omega)).trans hB7
      have hbw2:Below w.heap.size w w2:=hb.trans (hlow.mono (by omega))
      have cl2:=hBl2.cell 0;simp only[List.getElem?_toArray,List.getElem?_cons_zero] at cl2;rw[HTRI.out] at HST;clear ho hBl hB7 hoS hb cl c7 hsc hx hat' hg' hlow;have z1:(i:Int)<=(k:Int):=by omega
      have z2:(i:Int)+1<=(k:Int):=by omega
      have z3:(k:Int)<=(m:Int):=by omega
      have z4:(i:Int)<=(m:Int):=by omega
      have z5:(i:Int)+1<=(m:Int):=by omega
      have z6:(0:Int)<=(i:Int)+1:=by omega
      have z7:((i:Int)+1).toNat=i+1:=by omega
      have z8:¬m=i:=by omega
      by_cases hlast:i+1=m
      ·obtain rfl:m=k:=by omega
       have q1:IntKind.i64.wrap ((i:Int)+1)=(i:Int)+1:=Fe i 1 (by omega)
       obtain⟨W2,hrun,hoW,hgW⟩:=OwS.erase (w:=w2.drew) (OwS.drew ho2) HK.out hik ⟨g,0,none⟩ (fun h=>by omega)
       rw[show m-(i+1)=0 by omega] at hrun
       go_region
       clear hrun q1;have hBlW:Bb W2 (g+1) 54 #[.slice (some ⟨g,0,none⟩) m m]:=(hgW.block (g+1) hBl2.lt (by simp)).trans hBl2
       have hB7W:Bb W2 b7 174 #[.func (.func 87) #[] #[.pointer (some ⟨g+1,0,none⟩)]]:=(hgW.block b7 hB72.lt (by simp;omega)).trans hB72
       have hoSW:=hoS2.keepAbove (w':=W2) (fun j hj hlt=>hgW.block j hlt (by simp;omega))
       have hbW:Below w.heap.size w W2:=Below.grown (Aw hbw2) hgW hbw2.size (fun j hj=>by injection hj with hj;omega)
       have clW:=hBlW.cell 0;have fW:=hBlW.frozen 0;simp only[List.getElem?_toArray,List.getElem?_cons_zero] at clW;have y1:(0:Int)<=(m:Int)-1:=by omega
       have y2:(m:Int)-1<=(m:Int):=by omega
       have y3:((m:Int)-1).toNat=m-1:=by omega
       go_wp2_with fail;have hBlN:=hBlW.set_ 0 (.slice (some ⟨g,0,none⟩) (m-1) m);refine⟨⟨cur.eraseIdx i,m-1,f-1,(ts++[[p1,p2,p3]]),?_,by omega,?_,OwG.far hoW (p:=⟨g+1,0,none⟩) (by simp[Value.ownBlock]) _,hBlN,hB7W.far (p:=⟨g+1,0,none⟩) (by simp;omega) _,hoSW.keepAbove (fun j hj hlt=>Below.heap_setCell W2 ⟨g+1,0,none⟩ _ j (by simp;omega)),Bc hbW (p:=⟨g+1,0,none⟩) (by simp;omega) _,by omega,HST⟩,?_⟩
       ·show _=_
        rw[List.length_eraseIdx_of_lt (by rw[HK.out];exact hik),HK.out]
       ·rw[List.length_append];simp;omega
       ·rw[HL0.out,Ko (hBlN.cell 0)];omega
      ·have z9:¬m=i+1:=by omega
       have q1:IntKind.i64.wrap ((i:Int)+1)=(i:Int)+1:=Fe i 1 (by omega)
       obtain⟨W2,hrun,hoW,hgW⟩:=OwS.erase (w:=w2.drew) (OwS.drew ho2) HK.out hik ⟨g,(i+1)*2,none⟩ (fun _=>rfl)
       go_region
       clear hrun q1;have hBlW:Bb W2 (g+1) 54 #[.slice (some ⟨g,0,none⟩) k m]:=(hgW.block (g+1) hBl2.lt (by simp)).trans hBl2
       have hB7W:Bb W2 b7 174 #[.func (.func 87) #[] #[.pointer (some ⟨g+1,0,none⟩)]]:=(hgW.block b7 hB72.lt (by simp;omega)).trans hB72
       have hoSW:=hoS2.keepAbove (w':=W2) (fun j hj hlt=>hgW.block j hlt (by simp;omega))
       have hbW:Below w.heap.size w W2:=Below.grown (Aw hbw2) hgW hbw2.size (fun j hj=>by injection hj with hj;omega)
       have clW:=hBlW.cell 0;have fW:=hBlW.frozen 0;simp only[List.getElem?_toArray,List.getElem?_cons_zero] at clW;have y1:(0:Int)<=(k:Int)-1:=by omega
       have y2:(k:Int)-1<=(m:Int):=by omega
       have y3:((k:Int)-1).toNat=k-1:=by omega
       go_wp2_with fail;have hBlN:=hBlW.set_ 0 (.slice (some ⟨g,0,none⟩) (k-1) m);refine⟨⟨cur.eraseIdx i,k-1,f-1,(ts++[[p1,p2,p3]]),?_,by omega,?_,OwG.far hoW (p:=⟨g+1,0,none⟩) (by simp[Value.ownBlock]) _,hBlN,hB7W.far (p:=⟨g+1,0,none⟩) (by simp;omega) _,hoSW.keepAbove (fun j hj hlt=>Below.heap_setCell W2 ⟨g+1,0,none⟩ _ j (by simp;omega)),Bc hbW (p:=⟨g+1,0,none⟩) (by simp;omega) _,by omega,HST⟩,?_⟩
       ·show _=_
        rw[List.length_eraseIdx_of_lt (by rw[HK.out];exact hik),HK.out]
       ·rw[List.length_append];simp;omega
       ·rw[HL0.out,Ko (hBlN.cell 0)];omega
    ·have hst:=Pc (f:=f-1) (ts:=ts) HK.out (by omega) hii
     rw[show f-1+1=f by omega] at hst
     have HST:=Lib.hid (hst.symm.trans hsp.out);clear hst hsp;have hfi:=Oe 88 #[.pointer (some ⟨b7,0,none⟩)] k (Sh cur k) wr (by omega) Yo (fun j w' hj hbj=>Mc b7 (g+1) g k m j cur w' (by omega) hkm (Aq hbj c7) (Aq hbj cl) (hsc.keep hbj) hj)
     rw[hii] at hfi;have HFI:=Lib.hid hfi;clear hfi hii
     go_upto_region 18 with (go_at_call 92;refine HFI.out.mono ?_;rintro e w2 ⟨rfl,hb2⟩)
     have ho2:OwS w2 _ _ _:=OwG.keep ho hb2;have hBl2:=hBl.keep hb2;have hB72:=hB7.keep hb2;have hoS2:=hoS.keep hb2;have hbw2:=Ao hb hb2;have cl2:=Aq hb2 cl;clear ho hBl hB7 hoS hb cl c7 hsc hb2;have z1:(i:Int)<=(k:Int):=by omega
     have z2:(i:Int)+1<=(k:Int):=by omega
     have z3:(k:Int)<=(m:Int):=by omega
     have z4:(i:Int)<=(m:Int):=by omega
     have z5:(i:Int)+1<=(m:Int):=by omega
     have z6:(0:Int)<=(i:Int)+1:=by omega
     have z7:((i:Int)+1).toNat=i+1:=by omega
     have z8:¬m=i:=by omega
     by_cases hlast:i+1=m
     ·obtain rfl:m=k:=by omega
      have q1:IntKind.i64.wrap ((i:Int)+1)=(i:Int)+1:=Fe i 1 (by omega)
      obtain⟨W2,hrun,hoW,hgW⟩:=OwS.erase (w:=w2.drew) (OwS.drew ho2) HK.out hik ⟨g,0,none⟩ (fun h=>by omega)
      rw[show m-(i+1)=0 by omega] at hrun
      go_region
      clear hrun q1;have hBlW:Bb W2 (g+1) 54 #[.slice (some ⟨g,0,none⟩) m m]:=(hgW.block (g+1) hBl2.lt (by simp)).trans hBl2
      have hB7W:Bb W2 b7 174 #[.func (.func 87) #[] #[.pointer (some ⟨g+1,0,none⟩)]]:=(hgW.block b7 hB72.lt (by simp;omega)).trans hB72
      have hoSW:=hoS2.keepAbove (w':=W2) (fun j hj hlt=>hgW.block j hlt (by simp;omega))
      have hbW:Below w.heap.size w W2:=Below.grown (Aw hbw2) hgW hbw2.size (fun j hj=>by injection hj with hj;omega)
      have clW:=hBlW.cell 0;have fW:=hBlW.frozen 0;simp only[List.getElem?_toArray,List.getElem?_cons_zero] at clW;have y1:(0:Int)<=(m:Int)-1:=by omega
      have y2:(m:Int)-1<=(m:Int):=by omega
      have y3:((m:Int)-1).toNat=m-1:=by omega
      go_wp2_with fail;have hBlN:=hBlW.set_ 0 (.slice (some ⟨g,0,none⟩) (m-1) m);refine⟨⟨cur.eraseIdx i,m-1,f-1,ts,?_,by omega,?_,OwG.far hoW (p:=⟨g+1,0,none⟩) (by simp[Value.ownBlock]) _,hBlN,hB7W.far (p:=⟨g+1,0,none⟩) (by simp;omega) _,hoSW.keepAbove (fun j hj hlt=>Below.heap_setCell W2 ⟨g+1,0,none⟩ _ j (by simp;omega)),Bc hbW (p:=⟨g+1,0,none⟩) (by simp;omega) _,by omega,HST⟩,?_⟩
      ·show _=_
       rw[List.length_eraseIdx_of_lt (by rw[HK.out];exact hik),HK.out]
      ·omega
      ·rw[HL0.out,Ko (hBlN.cell 0)];omega
     ·have z9:¬m=i+1:=by omega
      have q1:IntKind.i64.wrap ((i:Int)+1)=(i:Int)+1:=Fe i 1 (by omega)
      obtain⟨W2,hrun,hoW,hgW⟩:=OwS.erase (w:=w2.drew) (OwS.drew ho2) HK.out hik ⟨g,(i+1)*2,none⟩ (fun _=>rfl)
      go_region
      clear hrun q1;have hBlW:Bb W2 (g+1) 54 #[.slice (some ⟨g,0,none⟩) k m]:=(hgW.block (g+1) hBl2.lt (by simp)).trans hBl2
      have hB7W:Bb W2 b7 174 #[.func (.func 87) #[] #[.pointer (some ⟨g+1,0,none⟩)]]:=(hgW.block b7 hB72.lt (by simp;omega)).trans hB72
      have hoSW:=hoS2.keepAbove (w':=W2) (fun j hj hlt=>hgW.block j hlt (by simp;omega))
      have hbW:Below w.heap.size w W2:=Below.grown (Aw hbw2) hgW hbw2.size (fun j hj=>by injection hj with hj;omega)
      have clW:=hBlW.cell 0;have fW:=hBlW.frozen 0;simp only[List.getElem?_toArray,List.getElem?_cons_zero] at clW;have y1:(0:Int)<=(k:Int)-1:=by omega
      have y2:(k:Int)-1<=(m:Int):=by omega
      have y3:((k:Int)-1).toNat=k-1:=by omega
      go_wp2_with fail;have hBlN:=hBlW.set_ 0 (.slice (some ⟨g,0,none⟩) (k-1) m);refine⟨⟨cur.eraseIdx i,k-1,f-1,ts,?_,by omega,?_,OwG.far hoW (p:=⟨g+1,0,none⟩) (by simp[Value.ownBlock]) _,hBlN,hB7W.far (p:=⟨g+1,0,none⟩) (by simp;omega) _,hoSW.keepAbove (fun j hj hlt=>Below.heap_setCell W2 ⟨g+1,0,none⟩ _ j (by simp;omega)),Bc hbW (p:=⟨g+1,0,none⟩) (by simp;omega) _,by omega,HST⟩,?_⟩
      ·show _=_
       rw[List.length_eraseIdx_of_lt (by rw[HK.out];exact hik),HK.out]
      ·omega
      ·rw[HL0.out,Ko (hBlN.cell 0)];omega
   ·have hend:=Pd (f:=f) (cur:=cur) (ts:=ts) (by rw[HK.out];omega)
    have HEND:=Lib.hid (hsp.out.symm.trans hend);clear hend hsp;have hoS2:=hoS.lower (base':=w.heap.size) (by omega)
    go_wp2_with (at_builtin;refine Ev rfl _ _ rfl w.heap.size _ ts rfl (hoS2.keep (An (Below.refl _ _) _)) wr.heap.size 1 (.slice (some ⟨g,0,none⟩) k m) cur 54 rfl (Bb.new _ _ _) ((OwS.els ho).keep (An (Below.refl _ _) _)) (by omega) (An hb _).size ?_;intro v' w' ho' hg' hat')
    go_ret2
    refine⟨Bm (An hb _) (H6.own (hoS2.keep (An (Below.refl _ _) _))) hg',?_⟩;rw[HEND.out];exact⟨v',rfl,ho'⟩
end Go.Proofs.YtpbchbcdgikonaaGreat
