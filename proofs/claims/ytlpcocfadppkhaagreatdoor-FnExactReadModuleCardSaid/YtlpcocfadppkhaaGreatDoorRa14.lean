/-
  A module while it is read: one more import, core, instruction. No program in sight.
-/
import Derived.Test.YtlpcocfadppkhaaGreatDoorRa13
namespace Go.Proofs.YtlpcocfadppkhaaGreatDoor
open Go.RowKit
set_option linter.unusedVariables false
set_option linter.unusedSimpArgs false
set_option linter.unnecessarySimpa false
def zi (i:Ins):List Value:=[.int .i64 i.op,.int .i64 i.a]
def zk (x:Imp):List Value:=[.string x.name,.int .i64 x.params,.bool x.result]
def anc (c:Core) (v:Value):List Value:=[.string c.name,.int .i64 c.params,.int .i64 c.locals,.bool c.result,v]
def jf:List Core→List Value→List Value
 | c ::cs,v ::vs=>anc c v ++jf cs vs
 | _,_=>[]
def aav (c:Core) (v:Value):ac4:=⟨54,2,v,c.code.length,c.code.flatMap zi⟩
def jq:List Core→List Value→List ac4
 | c ::cs,v ::vs=>aav c v ::jq cs vs
 | _,_=>[]
def abw (xs:List Imp) (v:Value):ac4:=⟨52,3,v,xs.length,xs.flatMap zk⟩
def aa7 (cs:List Core) (vs:List Value) (v:Value):ac4:=⟨36,5,v,cs.length,jf cs vs⟩
def GM (lo:Nat) (W:World) (m:Mod) (vi vc:Value) (vs:List Value):Prop:=vs.length=m.cores.length∧jl lo W (abw m.imports vi ::aa7 m.cores vs vc ::jq m.cores vs)
theorem aai:∀ {cs:List Core} {vs:List Value} (c:Core) (v:Value),vs.length=cs.length→jf (cs ++[c]) (vs ++[v])=jf cs vs ++anc c v
 | [],[],c,v,_=>by simp[jf]
 | a ::cs,b ::vs,c,v,h=>by
  rw[List.cons_append,List.cons_append,jf,jf,aai c v (by simpa using h),List.append_assoc]
theorem vk:∀ {cs:List Core} {vs:List Value} (c:Core) (v:Value),vs.length=cs.length→jq (cs ++[c]) (vs ++[v])=jq cs vs ++[aav c v]
 | [],[],c,v,_=>by simp[jq]
 | a ::cs,b ::vs,c,v,h=>by
  rw[List.cons_append,List.cons_append,jq,jq,vk c v (by simpa using h)];rfl
theorem aad:∀ {cs:List Core} {vs:List Value},vs.length=cs.length→(jf cs vs).length=cs.length * 5
 | [],[],_=>rfl
 | a ::cs,b ::vs,h=>by
  rw[jf,List.length_append,aad (by simpa using h),List.length_cons,Nat.succ_mul]
  simp[anc];omega
theorem agi {m:Mod} {vs:List Value} (h:vs.length=m.cores.length) (h0:¬ m.cores=[]):∃ cs c us v,m.cores=cs ++[c]∧vs=us ++[v]∧us.length=cs.length:=by
 rcases List.eq_nil_or_concat m.cores with e|⟨cs,c,e⟩
 ·exact absurd e h0
 rcases List.eq_nil_or_concat vs with e2|⟨us,v,e2⟩
 ·rw[e,e2] at h;simp at h
 ·refine⟨cs,c,us,v,by simpa using e,by simpa using e2,?_⟩
  rw[e,e2] at h
  simpa using h
section
variable {lo:Nat} {W W':World} {m:Mod} {vi vc vi' vc' v v':Value} {vs:List Value} {p:Int} {is:List Imp} {cs:List Core} {c:Core}
theorem GM.new (lo:Nat) (W:World) (p:Int):GM lo W ⟨p,[],[]⟩ (.slice none 0 0) (.slice none 0 0) []:=by
 refine⟨rfl,fun r hr=>?_,?_⟩
 ·simp[jq] at hr
  rcases hr with rfl|rfl
  ·exact World.ownsRow_nil W lo _ 3
  ·exact World.ownsRow_nil W lo _ 5
 ·refine List.pairwise_cons.2 ⟨fun x hx g hg=>?_,List.pairwise_cons.2 ⟨fun x hx g hg=>?_,List.Pairwise.nil⟩⟩<;>cases hg
theorem GM.step (h:GM lo W m vi vc vs) (hb:Below W.heap.size W W'):GM lo W' m vi vc vs:=⟨h.1,h.2.step hb⟩
theorem GM.far (h:GM lo W m vi vc vs) {p:Addr} (hp:p.block < lo) (u:Value):GM lo (W.setCell p u) m vi vc vs:=⟨h.1,h.2.far hp u⟩
theorem GM.kept (h:GM lo W m vi vc vs) (hk:∀ k o,lo≤k→W.heap[k]?=some o→o.isCells=true→W'.heap[k]?=some o):GM lo W' m vi vc vs:=
 ⟨h.1,h.2.kept fun r hr g hg=>by
  rcases(h.2.1 r hr).2 with ⟨h0,_⟩|⟨g2,cap,cur,hv,hb,hh,_⟩
  ·rw[h0] at hg;cases hg
  ·rw[hv] at hg
   have e:g2=g:=Option.some.inj hg
   subst e
   exact(hk g2 _ hb hh rfl).trans hh.symm⟩
theorem GM.page (h:GM lo W ⟨p,is,cs⟩ vi vc vs) (q:Int):GM lo W ⟨q,is,cs⟩ vi vc vs:=h
theorem GM.aby (h:GM lo W ⟨p,is,cs⟩ vi vc vs):W.ownsRow lo 52 3 vi is.length (is.flatMap zk):=h.2.get (r:=abw is vi) (by simp)
theorem GM.pq (h:GM lo W ⟨p,is,cs⟩ vi vc vs):W.ownsRow lo 36 5 vc cs.length (jf cs vs):=h.2.get (r:=aa7 cs vs vc) (by simp)
theorem GM.gy (h:GM lo W ⟨p,is,cs ++[c]⟩ vi vc (vs ++[v])):W.ownsRow lo 54 2 v c.code.length (c.code.flatMap zi):=by
 have hl:vs.length=cs.length:=by have:=h.1;simpa using this
 refine h.2.get (r:=aav c v) ?_
 rw[vk c v hl]
 simp
theorem GM.imp (h:GM lo W ⟨p,is,cs⟩ vi vc vs) (x:Imp) (hr:W'.ownsRow lo 52 3 vi' (is.length+1) (is.flatMap zk ++zk x)) (hg:W.grownBy W' vi.ownBlock) (hat:vi'.ownBlock=vi.ownBlock∨vi'.ownBlock=some W.heap.size):
  GM lo W' ⟨p,is ++[x],cs⟩ vi' vc vs:=
 ⟨h.1,jl.grow (L:=[]) (r:=abw is vi) (r':=abw (is ++[x]) vi') h.2 hg (by show W'.ownsRow lo 52 3 vi' (is ++[x]).length ((is ++[x]).flatMap zk);rw[List.flatMap_append,List.length_append];simpa using hr) hat⟩
theorem GM.cor (h:GM lo W ⟨p,is,cs⟩ vi vc vs) {name:ByteArray} {a b:Int} {r:Bool} (hr:W'.ownsRow lo 36 5 vc' (cs.length+1) (jf cs vs ++[.string name,.int .i64 a,.int .i64 b,.bool r,.slice none 0 0])) (hg:W.grownBy W' vc.ownBlock) (hat:vc'.ownBlock=vc.ownBlock∨vc'.ownBlock=some W.heap.size):
  GM lo W' ⟨p,is,cs ++[⟨name,a,b,r,[]⟩]⟩ vi vc' (vs ++[.slice none 0 0]):=by
 have hl:vs.length=cs.length:=h.1
 refine⟨by simp[hl],?_⟩
 have h1:=jl.grow (L:=[abw is vi]) (r:=aa7 cs vs vc) (r':=aa7 (cs ++[⟨name,a,b,r,[]⟩]) (vs ++[.slice none 0 0]) vc') h.2 hg (by
  show W'.ownsRow lo 36 5 vc' (cs ++[_]).length (jf (cs ++[_]) (vs ++[_]))
  rw[aai _ _ hl,List.length_append]
  exact hr) hat
 have h2:=h1.axy 54 2
 rw[vk _ _ hl]
 simpa [aav] using h2
theorem GM.ins (h:GM lo W ⟨p,is,cs ++[c]⟩ vi vc (vs ++[v])) (i:Ins) (hr:W'.ownsRow lo 54 2 v' (c.code.length+1) (c.code.flatMap zi ++zi i)) (hg:W.grownBy W' v.ownBlock) (hat:v'.ownBlock=v.ownBlock∨v'.ownBlock=some W.heap.size)
  {g n cap:Nat} (hv:vc=.slice (some ⟨g,0,none⟩) n cap):
  GM lo (W'.setCell ⟨g,cs.length * 5+4,none⟩ v') ⟨p,is,cs ++[⟨c.name,c.params,c.locals,c.result,c.code ++[i]⟩]⟩ vi vc (vs ++[v']):=by
 have hl:vs.length=cs.length:=by have:=h.1;simpa using this
 refine⟨by simp[hl],?_⟩
 have h0:jl lo W ((abw is vi ::aa7 (cs ++[c]) (vs ++[v]) vc ::jq cs vs) ++aav c v ::[]):=by
  have:=h.2
  rw[vk c v hl] at this
  simpa using this
 have h1:=jl.grow (r':=aav ⟨c.name,c.params,c.locals,c.result,c.code ++[i]⟩ v') h0 hg (by
  show W'.ownsRow lo 54 2 v' (c.code ++[i]).length ((c.code ++[i]).flatMap zi)
  rw[List.flatMap_append,List.length_append]
  simpa using hr) hat
 have h2:=jl.put (L:=[abw is vi]) (r:=aa7 (cs ++[c]) (vs ++[v]) vc) (R:=jq cs vs ++[aav ⟨c.name,c.params,c.locals,c.result,c.code ++[i]⟩ v']) (by simpa using h1) (g:=g) (m:=n) (cap:=cap) hv (i:=cs.length * 5+4) (by show _ < (cs ++[c]).length * 5;rw[List.length_append,List.length_singleton];omega) v'
 have h3:(jf (cs ++[c]) (vs ++[v])).set (cs.length * 5+4) v'=jf (cs ++[⟨c.name,c.params,c.locals,c.result,c.code ++[i]⟩]) (vs ++[v']):=by
  rw[aai _ _ hl,aai _ _ hl,List.set_append_right _ _ (by rw[aad hl];omega),aad hl,show cs.length * 5+4 - cs.length * 5=4 by omega]
  rfl
 rw[vk _ _ hl]
 simp only[aa7,h3,List.length_append,List.length_singleton] at h2 ⊢
 simpa using h2
theorem GM.cut {A:Option Addr} {k cp:Nat} (h:GM lo W ⟨p,is,cs ++[c]⟩ vi vc (vs ++[.slice A (k+1) cp])) {code:List Ins} {i:Ins} (hc:c.code=code ++[i]) {g n cap:Nat} (hv:vc=.slice (some ⟨g,0,none⟩) n cap):
  GM lo (W.setCell ⟨g,cs.length * 5+4,none⟩ (.slice A k cp)) ⟨p,is,cs ++[⟨c.name,c.params,c.locals,c.result,code⟩]⟩ vi vc (vs ++[.slice A k cp]):=by
 have hl:vs.length=cs.length:=by have:=h.1;simpa using this
 refine⟨by simp[hl],?_⟩
 have h0:jl lo W ((abw is vi ::aa7 (cs ++[c]) (vs ++[.slice A (k+1) cp]) vc ::jq cs vs) ++aav c (.slice A (k+1) cp) ::[]):=by
  have:=h.2
  rw[vk c _ hl] at this
  simpa using this
 have hok:W.ownsRow lo 54 2 (.slice A (k+1) cp) c.code.length (c.code.flatMap zi):=h.gy
 have hpop:W.ownsRow lo 54 2 (.slice A k cp) code.length (code.flatMap zi):=by
  rw[hc] at hok
  have h1:=hok.1
  rcases hok.2 with ⟨h2,_⟩|⟨g2,cap2,cur,hv2,hbb,hh,hnc,hcm,hcs,ht⟩
  ·injection h2 with e1 e2 e3;omega
  ·injection hv2 with e1 e2 e3
   rw[List.length_append,List.length_singleton] at e2
   have hk:k=code.length:=by omega
   subst e1 e3
   rw[List.length_append,List.length_singleton] at hnc ht
   refine⟨?_,.inr ⟨g2,cp,cur,by rw[hk],hbb,hh,by omega,hcm,hcs,?_⟩⟩
   ·have:∀ l:List Ins,(l.flatMap zi).length=l.length * 2:=fun l=>by
     induction l with
     | nil=>rfl
     | cons a l ih=>rw[List.flatMap_cons,List.length_append,ih,List.length_cons,Nat.succ_mul];simp[zi];omega
    exact this code
   ·have e:=congrArg (List.take (code.length * 2)) ht
    rw[List.take_take,show min (code.length * 2) ((code.length+1) * 2)=code.length * 2 by omega] at e
    rw[e,List.flatMap_append,List.take_append_of_le_length,List.take_of_length_le]
    all_goals
     have:∀ l:List Ins,(l.flatMap zi).length=l.length * 2:=fun l=>by
      induction l with
      | nil=>rfl
      | cons a l ih=>rw[List.flatMap_cons,List.length_append,ih,List.length_cons,Nat.succ_mul];simp[zi];omega
     rw[this]
     exact Nat.le_refl _
 have h1:=jl.grow (r':=aav ⟨c.name,c.params,c.locals,c.result,code⟩ (.slice A k cp)) h0 (World.grownBy.refl W _) hpop (by cases A<;>exact .inl rfl)
 have h2:=jl.put (L:=[abw is vi]) (r:=aa7 (cs ++[c]) (vs ++[.slice A (k+1) cp]) vc) (R:=jq cs vs ++[aav ⟨c.name,c.params,c.locals,c.result,code⟩ (.slice A k cp)]) (by simpa using h1) (g:=g) (m:=n) (cap:=cap) hv (i:=cs.length * 5+4) (by show _ < (cs ++[c]).length * 5;rw[List.length_append,List.length_singleton];omega) (.slice A k cp)
 have h3:(jf (cs ++[c]) (vs ++[.slice A (k+1) cp])).set (cs.length * 5+4) (.slice A k cp)=jf (cs ++[⟨c.name,c.params,c.locals,c.result,code⟩]) (vs ++[.slice A k cp]):=by
  rw[aai _ _ hl,aai _ _ hl,List.set_append_right _ _ (by rw[aad hl];omega),aad hl,show cs.length * 5+4 - cs.length * 5=4 by omega]
  rfl
 rw[vk _ _ hl]
 simp only[aa7,h3,List.length_append,List.length_singleton] at h2 ⊢
 simpa using h2
end
def agj (r:ac4):List Nat:=r.v.ownBlock.toList
theorem adh {lo:Nat} {W:World} {t sz n:Nat} {v:Value} {cs:List Value} {ds:List PD} {F:List Nat} (h:W.ownsRow lo t sz v n cs) (hL:ah W ds cs F):∃ G,Hold W (.row sz ds) v G∧List.Sublist G (v.ownBlock.toList ++F):=by
 have hlen:=hL.length
 have h1:=h.1
 rcases h.2 with ⟨rfl,rfl⟩|⟨g,cap,cur,rfl,hbg,hg,hnc,hcm,hcs,ht⟩
 ·exact⟨[],by rw[Hold];exact⟨none,0,0,rfl,by omega,Nat.le_refl _,by decide,.inl ⟨rfl,rfl⟩⟩,List.nil_sublist _⟩
 ·by_cases h0:n=0
  ·exact⟨[],by rw[Hold];exact⟨_,n,cap,rfl,by omega,hnc,hcm,.inl ⟨h0,rfl⟩⟩,List.nil_sublist _⟩
  ·have hget:∀ (j:Nat) (u:Value),cs[j]?=some u→cur[0+j]?=some u:=fun j u hu=>by
    rw[← ht,List.getElem?_take] at hu
    split at hu
    ·simpa using hu
    ·cases hu
   exact⟨g ::F,by rw[Hold];exact⟨_,n,cap,rfl,by omega,hnc,hcm,.inr ⟨by omega,g,0,F,cs,rfl,rfl,⟨cur,t,hg,hget⟩,hL⟩⟩,List.Sublist.refl _⟩
theorem alz {W:World}:∀ (xs:List Value),ah W (xs.map PD.lit) xs []
 | []=>ah.nil W
 | x ::xs=>by have:=ah.cons (Hold.afe W x) (alz xs);simpa using this
theorem afd {α:Type} {W:World} {f:α→List PD} {g:α→List Value} (h:∀ x,f x=(g x).map PD.lit):∀ xs:List α,ah W (xs.flatMap f) (xs.flatMap g) []
 | []=>ah.nil W
 | x ::xs=>by
  rw[List.flatMap_cons,List.flatMap_cons,h x]
  exact(alz (g x)).append (afd h xs)
theorem agk {lo:Nat} {W:World}:∀ {cs:List Core} {vs:List Value},vs.length=cs.length→(∀ r ∈ jq cs vs,r.ok W lo)→∃ F,ah W (cs.flatMap Core.pd) (jf cs vs) F∧List.Sublist F ((jq cs vs).flatMap agj)
 | [],[],_,_=>⟨[],ah.nil W,List.nil_sublist _⟩
 | c ::cs,v ::vs,hl,hk=>by
  obtain⟨F,h1,h2⟩:=agk (cs:=cs) (vs:=vs) (by simpa using hl) fun r hr=>hk r (by rw[jq];simp[hr])
  have hc:W.ownsRow lo 54 2 v c.code.length (c.code.flatMap zi):=hk (aav c v) (by rw[jq];simp)
  obtain⟨G,h3,h4⟩:=adh hc (afd (f:=Ins.pd) (g:=zi) (fun _=>rfl) c.code)
  refine⟨G ++F,?_,?_⟩
  ·have k:=ah.cons (Hold.afe W (.string c.name)) (ah.cons (Hold.afe W (.int .i64 c.params)) (ah.cons (Hold.afe W (.int .i64 c.locals)) (ah.cons (Hold.afe W (.bool c.result)) (ah.cons h3 (ah.nil W)))))
   have k2:ah W (Core.pd c) (anc c v) G:=by simpa [Core.pd,anc] using k
   rw[List.flatMap_cons,jf]
   exact k2.append h1
  ·rw[jq,List.flatMap_cons]
   refine List.Sublist.append ?_ h2
   simpa [agj,aav] using h4
theorem ane {lo:Nat} {W:World}:∀ {rs:List ac4},jl lo W rs→In (rs.flatMap agj) lo W.heap.size
 | [],_=>In.nil _ _
 | r ::rs,h=>by
  have ih:=ane (rs:=rs) ⟨fun x hx=>h.1 x (by simp[hx]),(List.pairwise_cons.1 h.2).2⟩
  have hr:=h.1 r (by simp)
  have ha:=(List.pairwise_cons.1 h.2).1
  rw[List.flatMap_cons]
  refine⟨List.nodup_append.2 ⟨?_,ih.1,fun x hx y hy e=>?_⟩,fun g hg=>?_⟩
  ·rw[agj];cases r.v.ownBlock<;>simp
  ·subst e
   obtain⟨s,hs,hys⟩:=List.mem_flatMap.1 hy
   rw[agj,Option.mem_toList] at hx hys
   exact ha s hs x hx hys
  ·rcases List.mem_append.1 hg with hg|hg
   ·rw[agj,Option.mem_toList] at hg
    exact hr.lt g hg
   ·exact ih.2 g hg
theorem GM.done {lo:Nat} {W:World} {m:Mod} {vi vc:Value} {vs:List Value} (h:GM lo W m vi vc vs):LvC W lo W.heap.size (Mod.pd m) [.int .i64 m.pages,vi,vc]:=by
 obtain⟨pages,imports,cores⟩:=m
 have hin:=ane h.2
 have hci:W.ownsRow lo 52 3 vi imports.length (imports.flatMap zk):=h.aby
 have hcc:W.ownsRow lo 36 5 vc cores.length (jf cores vs):=h.pq
 obtain⟨G1,h1,s1⟩:=adh hci (afd (f:=Imp.pd) (g:=zk) (fun _=>rfl) imports)
 obtain⟨F,h2,s2⟩:=agk (lo:=lo) (W:=W) (cs:=cores) (vs:=vs) h.1 fun r hr=>h.2.1 r (by simp[hr])
 obtain⟨G2,h3,s3⟩:=adh hcc h2
 have hs:List.Sublist (G1 ++G2) ((abw imports vi ::aa7 cores vs vc ::jq cores vs).flatMap agj):=by
  rw[List.flatMap_cons,List.flatMap_cons]
  refine List.Sublist.append (by simpa [agj,abw] using s1) (s3.trans (List.Sublist.append (List.Sublist.refl _) s2))
 refine⟨G1 ++G2,?_,⟨hs.nodup hin.1,fun g hg=>hin.2 g (hs.subset hg)⟩,Nat.le_refl _⟩
 have k:=ah.cons (Hold.afe W (.int .i64 pages)) (ah.cons h1 (ah.cons h3 (ah.nil W)))
 rw[Mod.aj]
 simpa using k
theorem GM.cap {lo:Nat} {W:World} {m:Mod} {vi vc:Value} {vs:List Value} (h:GM lo W m vi vc vs):aqb [.int .i64 m.pages,vi,vc]:=by
 obtain⟨pages,imports,cores⟩:=m
 exact avw h.done
end Go.Proofs.YtlpcocfadppkhaaGreatDoor
